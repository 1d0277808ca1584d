/- AggParts: the law, walked. -/
import Derived.Test.YtkgplkddpigagaaQbS
set_option linter.unusedVariables false
set_option linter.unusedSimpArgs false
namespace Go.Proofs.Ytkgplkddpigagaa
namespace Am
open Go.RowKit
set_option maxRecDepth 100000
def b_AggParts : BF := ⟨101, [0, 1, 2, 6, 7, 8, 9, 11, 12, 13, 14, 15, 16, 17, 18, 19, 27, 43, 44, 45, 46, 98], (.seq (.reg [.mk none (.slot 3) (.mov (.mv (.const (.bool false))))]) (.seq (.reg [.mk none (.slot 4) (.mov (.mv (.const .snil)))]) (.seq (.seq (.reg [.mk none (.slot 5) (.mov (.mv (.const (.int .i64 0))))]) (.block 0 (.loop (.seq (.seq (.reg [.mk none (.env 20) (.mov (.mv (.slot 5))), .mk none (.env 21) (.mov (.mv (.slot 1))), .mk none (.env 22) (.mov (.lenv (.env 21))), .mk none (.env 23) (.mov (.bin .lss .no (.env 20) (.env 22))), .mk none (.env 24) (.mov (.mv (.env 23))), .mk (some ((.env 24), true)) (.env 25) (.mov (.mv (.slot 5))), .mk (some ((.env 24), true)) (.env 26) (.mov (.bin .lss .no (.env 25) (.const (.int .i64 5)))), .mk none (.slot 16) (.mov (.pick (.env 24) (.env 26) (.const (.bool false))))]) (.cond (.slot 16) .skip (.exit 0))) (.seq (.block 1 (.reg [.mk none (.env 30) (.mov (.mv (.slot 4))), .mk none (.env 31) (.mov (.mv (.slot 0))), .mk none (.env 32) (.mov (.mv (.slot 1))), .mk none (.env 33) (.mov (.mv (.slot 5))), .mk none (.env 34) (.mov (.iaddr 1 (.env 32) (.env 33))), .mk none (.env 35) (.mov (.ld1 (.env 34))), .mk none (.env 36) (.call 11 [(.env 31), (.env 35), (.const (.int .i64 8))]), .mk none (.env 37) (.eff (.bslice 1 1 [.snil] [(0, 1, (.env 36))])), .mk none (.env 38) (.eff (.append 1 24 (.env 30) (.env 37))), .mk none (.slot 4) (.mov (.mv (.env 38)))])) (.reg [.mk none (.env 28) (.mov (.mv (.slot 5))), .mk none (.env 29) (.mov (.bin .add .no (.env 28) (.const (.int .i64 1)))), .mk none (.slot 5) (.mov (.mv (.env 29)))])))))) (.seq (.reg [.mk none (.env 39) (.mov (.mv (.slot 2))), .mk none (.env 40) (.mov (.mv (.slot 4))), .mk none (.env 41) (.mov (.lenv (.env 40))), .mk none (.env 42) (.call 8 [(.env 39), (.const (.int .i64 0)), (.env 41)]), .mk none (.slot 6) (.mov (.mv (.env 42)))]) (.seq (.seq (.reg [.mk none (.slot 17) (.eff (.bslice 1 3 [(.int .i64 0)] [(0, 1, (.const (.int .i64 1))), (1, 1, (.const (.int .i64 2))), (2, 1, (.const (.int .i64 3)))])), .mk none (.slot 18) (.mov (.lenv (.slot 17))), .mk none (.slot 19) (.mov (.mv (.const (.int .i64 0))))]) (.block 2 (.loop (.seq (.reg [.mk none (.slot 20) (.mov (.bin .lss .no (.slot 19) (.slot 18)))]) (.seq (.cond (.slot 20) .skip (.exit 2)) (.seq (.block 3 (.seq (.reg [.mk none (.env 47) (.mov (.iaddr 1 (.slot 17) (.slot 19))), .mk none (.env 48) (.mov (.ld1 (.env 47))), .mk none (.slot 7) (.mov (.mv (.env 48)))]) (.seq (.reg [.mk none (.env 50) (.mov (.mv (.slot 7))), .mk none (.env 51) (.mov (.mv (.slot 4))), .mk none (.env 52) (.mov (.mv (.slot 6))), .mk none (.env 53) (.mov (.sl 1 (.env 51) none (some (.env 52)) none)), .mk none (.env 54) (.call 12 [(.env 50), (.env 53)]), .mk none (.env 49) (.mov (.mv (.env 54))), .mk none (.env 55) (.mov (.ext 0 (.env 49))), .mk none (.env 56) (.mov (.ext 1 (.env 49))), .mk none (.slot 8) (.mov (.mv (.env 55))), .mk none (.slot 9) (.mov (.mv (.env 56)))]) (.seq (.reg [.mk none (.env 58) (.mov (.mv (.slot 7))), .mk none (.env 59) (.mov (.mv (.slot 4))), .mk none (.env 60) (.mov (.mv (.slot 6))), .mk none (.env 61) (.mov (.sl 1 (.env 59) (some (.env 60)) none none)), .mk none (.env 62) (.call 12 [(.env 58), (.env 61)]), .mk none (.env 57) (.mov (.mv (.env 62))), .mk none (.env 63) (.mov (.ext 0 (.env 57))), .mk none (.env 64) (.mov (.ext 1 (.env 57))), .mk none (.slot 10) (.mov (.mv (.env 63))), .mk none (.slot 11) (.mov (.mv (.env 64)))]) (.seq (.reg [.mk none (.env 66) (.mov (.mv (.slot 7))), .mk none (.env 67) (.mov (.mv (.slot 4))), .mk none (.env 68) (.call 12 [(.env 66), (.env 67)]), .mk none (.env 65) (.mov (.mv (.env 68))), .mk none (.env 69) (.mov (.ext 0 (.env 65))), .mk none (.env 70) (.mov (.ext 1 (.env 65))), .mk none (.slot 12) (.mov (.mv (.env 69))), .mk none (.slot 13) (.mov (.mv (.env 70)))]) (.seq (.reg [.mk none (.env 72) (.mov (.mv (.slot 7))), .mk none (.env 73) (.mov (.mv (.slot 8))), .mk none (.env 74) (.mov (.mv (.slot 10))), .mk none (.env 75) (.eff (.bslice 1 2 [.snil] [(0, 1, (.env 73)), (1, 1, (.env 74))])), .mk none (.env 76) (.call 12 [(.env 72), (.env 75)]), .mk none (.env 71) (.mov (.mv (.env 76))), .mk none (.env 77) (.mov (.ext 0 (.env 71))), .mk none (.env 78) (.mov (.ext 1 (.env 71))), .mk none (.slot 14) (.mov (.mv (.env 77))), .mk none (.slot 15) (.mov (.mv (.env 78)))]) (.seq (.reg [.mk none (.env 79) (.mov (.mv (.slot 9))), .mk none (.env 80) (.mov (.bin .neq .no (.env 79) (.const (.int .i64 0)))), .mk none (.env 81) (.mov (.mv (.env 80))), .mk (some ((.env 81), false)) (.env 82) (.mov (.mv (.slot 11))), .mk (some ((.env 81), false)) (.env 83) (.mov (.bin .neq .no (.env 82) (.const (.int .i64 0)))), .mk none (.env 84) (.mov (.pick (.env 81) (.const (.bool true)) (.env 83))), .mk none (.env 85) (.mov (.mv (.env 84))), .mk (some ((.env 85), false)) (.env 86) (.mov (.mv (.slot 13))), .mk (some ((.env 85), false)) (.env 87) (.mov (.bin .neq .no (.env 86) (.const (.int .i64 0)))), .mk none (.env 88) (.mov (.pick (.env 85) (.const (.bool true)) (.env 87))), .mk none (.env 89) (.mov (.mv (.env 88))), .mk (some ((.env 89), false)) (.env 90) (.mov (.mv (.slot 15))), .mk (some ((.env 89), false)) (.env 91) (.mov (.bin .neq .no (.env 90) (.const (.int .i64 0)))), .mk none (.env 92) (.mov (.pick (.env 89) (.const (.bool true)) (.env 91))), .mk none (.env 93) (.mov (.mv (.env 92))), .mk (some ((.env 93), false)) (.env 94) (.mov (.mv (.slot 14))), .mk (some ((.env 93), false)) (.env 95) (.mov (.mv (.slot 12))), .mk (some ((.env 93), false)) (.env 96) (.call 13 [(.env 94), (.env 95)]), .mk (some ((.env 93), false)) (.env 97) (.mov (.notb (.env 96))), .mk none (.slot 21) (.mov (.pick (.env 93) (.const (.bool true)) (.env 97)))]) (.cond (.slot 21) (.seq (.reg [.mk none (.slot 3) (.mov (.mv (.const (.bool false))))]) .ret) .skip)))))))) (.reg [.mk none (.env 99) (.mov (.bin .add .no (.slot 19) (.const (.int .i64 1)))), .mk none (.slot 19) (.mov (.mv (.env 99)))]))))))) (.seq (.reg [.mk none (.env 100) (.call 10 []), .mk none (.slot 3) (.mov (.mv (.env 100)))]) .ret)))))), [.slot (.slot 3)]⟩
theorem smps_z {st : List Int} {most : Nat} : ∀ {ls : List (List SM)}, (∀ l ∈ ls, Smp l st most) → ∃ fs bs, SerZs (tmsG 0 (st.take most)) ls fs bs ∧ sumA bs = 1663200 * ls.length
  | [], _ => ⟨[], [], .nil, rfl⟩
  | l :: ls, h => by
    obtain ⟨f, hf⟩ := smp_z (h l (List.mem_cons_self ..))
    obtain ⟨fs, bs, h1, h2⟩ := smps_z (ls := ls) fun l hl => h l (List.mem_cons_of_mem _ hl)
    exact ⟨f :: fs, 1663200 :: bs, .cons hf h1, by simp only [sumA, h2, List.length_cons]; omega⟩
def hows3 : List Int := [1, 2, 3]
theorem ser_len {T : List Int} {a : List SM} {n : Nat} (hT : T.length ≤ n) (h : a = [] ∨ a.map SM.t = T) : a.length ≤ n := by
  rcases h with h | h
  · subst h; simp
  · have := congrArg List.length h; rw [List.length_map] at this; omega
section
variable {X : Type} {E : Nat → Option (Ent X)}
set_option maxHeartbeats 8000000 in
theorem aparts_ok (hE : ∀ f e, E f = some e → e.plain) (T : QaW E) (hlaw : E 6 = some (.bc b_AggParts)) {h : Hp X} {v w : AV} {st : List Int} {vs : List (List Int)} {c : Int} (a : Ints h v st) (b : IntssAt h w vs) (hc : I64 c) :
    WF (lim E) 6 [v, w, .int .i64 c] h fun r _ => r = .bool true := by
  refine wf_bc hE hlaw rfl ?_
  simp only [b_AggParts, List.map, getS]
  have hmx : (maxLen : Nat) = 9223372036854775807 := rfl
  obtain ⟨wc, hrw, hat⟩ := b.out
  have hvl := b.len
  have htl : (tmsG 0 (st.take 8)).length ≤ 8 := by rw [tmsG_len, List.length_take]; omega
  repeat first|(refine BG ?_;first|(refine BH ?_;first|(refine BI ?_;refine BM ?_)|(refine BJ ?_;first|refine BN ?_|refine BO ?_)|refine BP ?_)|(refine BK ?_;first|refine BS rfl rfl ?_|refine BT rfl rfl ?_|refine BU rfl ?_)|(refine BL ?_;first|refine BQ ?_)|(refine BR ?_;try simp only [setS]))|refine AA ?_|refine AC ?_|refine AD ?_|refine AE ?_|refine AF rfl rfl ?_|refine AG rfl rfl ?_|refine AI ?_|refine AJ ?_|refine AK ?_|refine AL ?_|refine AM ?_|refine AN ?_|refine AO ?_|refine AP ?_|refine AQ rfl ?_|refine AR ?_|refine AS ?_|refine AT rfl ?_|refine AU rfl ?_
  refine wb_mid (fun t' hh => ∃ (i : Nat) (vo s16 : AV) (cs : List AV) (ls : List (List SM)), i ≤ 5 ∧ Keep NoB h hh ∧ SerO hh h.n vo cs ls ∧ ls.length = i ∧ (∀ l ∈ ls, Smp l st 8) ∧ t' = [v, w, .int .i64 c, .bool false, vo, .int .i64 i, .bot, .bot, .bot, .bot, .bot, .bot, .bot, .bot, .bot, .bot, s16, .bot, .bot, .bot, .bot, .bot]) ?_ ?_
  · repeat first|(refine BG ?_;first|(refine BH ?_;first|(refine BI ?_;refine BM ?_)|(refine BJ ?_;first|refine BN ?_|refine BO ?_)|refine BP ?_)|(refine BK ?_;first|refine BS rfl rfl ?_|refine BT rfl rfl ?_|refine BU rfl ?_)|(refine BL ?_;first|refine BQ ?_)|(refine BR ?_;try simp only [setS]))|refine AA ?_|refine AC ?_|refine AD ?_|refine AE ?_|refine AF rfl rfl ?_|refine AG rfl rfl ?_|refine AH ?_|refine AI ?_|refine AJ ?_|refine AK ?_|refine AL ?_|refine AM ?_|refine AN ?_|refine AO ?_|refine AP ?_|refine AQ rfl ?_|refine AR ?_|refine AS ?_|refine AT rfl ?_|refine AU rfl ?_
    refine wb_loop (fun n t hh => ∃ (i : Nat) (vo s16 : AV) (cs : List AV) (ls : List (List SM)), i ≤ vs.length ∧ i ≤ 5 ∧ n = 5 - i ∧ Keep NoB h hh ∧ SerO hh h.n vo cs ls ∧ ls.length = i ∧ (∀ l ∈ ls, Smp l st 8) ∧ t = [v, w, .int .i64 c, .bool false, vo, .int .i64 i, .bot, .bot, .bot, .bot, .bot, .bot, .bot, .bot, .bot, .bot, s16, .bot, .bot, .bot, .bot, .bot]) ?_ 5 _ _ ⟨0, .snil, _, [], [], by omega, by omega, by omega, Keep.refl _ _, .nil, rfl, (fun l hl => by cases hl), rfl⟩
    rintro n t hh ⟨i, vo, s16, cs, ls, hi1, hi2, hm, K, so, hli, hsm, rfl⟩
    by_cases hlt : i < vs.length ∧ i < 5
    · obtain ⟨hlt1, hlt2⟩ := hlt
      obtain ⟨vl, hvi⟩ : ∃ l, vs[i]? = some l := ⟨_, List.getElem?_eq_getElem hlt1⟩
      obtain ⟨y, hyi⟩ : ∃ y, wc[i]? = some y := ⟨_, List.getElem?_eq_getElem (by have := hrw.len; omega)⟩
      have q := hat i y vl hyi hvi
      obtain ⟨g, o, c0, c1⟩ := (hrw.up K).at2 hlt1
      have lc : ∀ {e : En} {t : List AV} {x : Od}, x.ev e t = .ptr g o → (Mv.ld1 x).ev e t hh = some y := fun hx => by rw [c1 (Keep.refl NoB hh) (fun _ _ q => q) hx]; exact hyi
      repeat first|(refine BG ?_;first|(refine BH ?_;first|(refine BI ?_;refine BM ?_)|(refine BJ ?_;first|refine BN ?_|refine BO ?_)|refine BV (hrw.lenv (by rfl)) ?_|refine BV ((hrw.up K).lenv (by rfl)) ?_|refine BV (c0 rfl rfl) ?_|refine BV (lc rfl) ?_|refine BP ?_)|(refine BK ?_;first|refine BS rfl rfl ?_|refine BT rfl rfl ?_|refine BU rfl ?_)|(refine BL ?_;first|refine BQ ?_)|(refine BR ?_;try simp only [setS]))|refine AA ?_|refine AC ?_|refine AD ?_|refine AE ?_|refine AF rfl rfl ?_|refine AG rfl rfl ?_|refine AH ?_|refine AI ?_|refine AJ ?_|refine AK ?_|refine AL ?_|refine AM ?_|refine AN ?_|refine AO ?_|refine AP ?_|refine AQ rfl ?_|refine AR ?_|refine AS ?_|refine AT rfl ?_|refine AU rfl ?_
      refine wr_call_e rfl ((smp_ok hE T.q (a.up K) (⟨q.1.up K, q.2.2, q.2.1⟩ : Ints hh y vl) (most := 8) (by omega)).mono fun sv h1 ⟨k1, l, sl, hbl, sm⟩ => ?_)
      have K1 := K.and k1
      have n1 := K.n
      repeat first|(refine BG ?_;first|(refine BH ?_;first|(refine BI ?_;refine BM ?_)|(refine BJ ?_;first|refine BN ?_|refine BO ?_)|refine BP ?_)|(refine BK ?_;first|refine BS rfl rfl ?_|refine BT rfl rfl ?_|refine BU rfl ?_)|(refine BL ?_;first|refine BW (ef_bs1' rfl sl.one.1 sl.one.2) ?_|refine BQ ?_)|(refine BR ?_;try simp only [setS]))|refine AA ?_|refine AC ?_|refine AD ?_|refine AE ?_|refine AF rfl rfl ?_|refine AG rfl rfl ?_|refine AH ?_|refine AI ?_|refine AJ ?_|refine AK ?_|refine AL ?_|refine AM ?_|refine AN ?_|refine AO ?_|refine AP ?_|refine AQ rfl ?_|refine AR ?_|refine AS ?_|refine AT rfl ?_|refine AU rfl ?_
      have kq : Keep NoB h1 (h1.push (.rw [sv])) := Keep.push _ _ _
      have n2 := K1.n
      refine wr_app_e rfl rfl ((so.up k1).up kq).o (by decide) (rs_push (n := 1) (z := 1) rfl) (by omega) (by omega) fun v' h' a1 a2 a3 => ?_
      have K7 := (K1.and kq).own a2 so.lo
      repeat first|(refine BG ?_;first|(refine BH ?_;first|(refine BI ?_;refine BM ?_)|(refine BJ ?_;first|refine BN ?_|refine BO ?_)|refine BP ?_)|(refine BK ?_;first|refine BS rfl rfl ?_|refine BT rfl rfl ?_|refine BU rfl ?_)|(refine BL ?_;first|refine BQ ?_)|(refine BR ?_;try simp only [setS]))|refine AA ?_|refine AC ?_|refine AD ?_|refine AE ?_|refine AF rfl rfl ?_|refine AG rfl rfl ?_|refine AH ?_|refine AI ?_|refine AJ ?_|refine AK ?_|refine AL ?_|refine AM ?_|refine AN ?_|refine AO ?_|refine AP ?_|refine AQ rfl ?_|refine AR ?_|refine AS ?_|refine AT rfl ?_|refine AU rfl ?_
      rw [show ((i : Int) + 1) = ((i + 1 : Nat) : Int) by omega]
      refine round_norm (n - 1) (by omega) ⟨i + 1, v', _, cs ++ [sv], ls ++ [l], by omega, by omega, by omega, K7, ((so.up k1).up kq).app (sl.up kq) (fun k hk q => ?_) (by simp only [push_n]; omega) a1 a2 a3, by rw [List.length_append]; simp; omega, fun l' hl' => ?_, rfl⟩
      · have g1 := hbl k hk
        have g2 := so.o.lt k q
        omega
      · rcases List.mem_append.1 hl' with hl' | hl'
        · exact hsm l' hl'
        · simp at hl'; subst hl'; exact sm
    · by_cases h1 : i < vs.length
      · repeat first|(refine BG ?_;first|(refine BH ?_;first|(refine BI ?_;refine BM ?_)|(refine BJ ?_;first|refine BN ?_|refine BO ?_)|refine BV (hrw.lenv (by rfl)) ?_|refine BV ((hrw.up K).lenv (by rfl)) ?_|refine BP ?_)|(refine BK ?_;first|refine BS rfl rfl ?_|refine BT rfl rfl ?_|refine BU rfl ?_)|(refine BL ?_;first|refine BQ ?_)|(refine BR ?_;try simp only [setS]))|refine AA ?_|refine AC ?_|refine AD ?_|refine AE ?_|refine AF rfl rfl ?_|refine AG rfl rfl ?_|refine AH ?_|refine AI ?_|refine AJ ?_|refine AK ?_|refine AL ?_|refine AM ?_|refine AN ?_|refine AO ?_|refine AP ?_|refine AQ rfl ?_|refine AR ?_|refine AS ?_|refine AT rfl ?_|refine AU rfl ?_
        exact mid_norm ⟨i, vo, _, cs, ls, hi2, K, so, hli, hsm, rfl⟩
      · repeat first|(refine BG ?_;first|(refine BH ?_;first|(refine BI ?_;refine BM ?_)|(refine BJ ?_;first|refine BN ?_|refine BO ?_)|refine BV (hrw.lenv (by rfl)) ?_|refine BV ((hrw.up K).lenv (by rfl)) ?_|refine BP ?_)|(refine BK ?_;first|refine BS rfl rfl ?_|refine BT rfl rfl ?_|refine BU rfl ?_)|(refine BL ?_;first|refine BQ ?_)|(refine BR ?_;try simp only [setS]))|refine AA ?_|refine AC ?_|refine AD ?_|refine AE ?_|refine AF rfl rfl ?_|refine AG rfl rfl ?_|refine AH ?_|refine AI ?_|refine AJ ?_|refine AK ?_|refine AL ?_|refine AM ?_|refine AN ?_|refine AO ?_|refine AP ?_|refine AQ rfl ?_|refine AR ?_|refine AS ?_|refine AT rfl ?_|refine AU rfl ?_
        exact mid_norm ⟨i, vo, _, cs, ls, hi2, K, so, hli, hsm, rfl⟩
  rintro t' hh ⟨i, vo, s16, cs, ls, hi2, K, so, hli, hsm, rfl⟩
  have hsr := so.sers (by omega)
  obtain ⟨fs, bs, hz, hzb⟩ := smps_z hsm
  have hll8 : ∀ l ∈ ls, l.length ≤ 1000 := fun l hl => by have := (hsm l hl).len; omega
  repeat first|(refine BG ?_;first|(refine BH ?_;first|(refine BI ?_;refine BM ?_)|(refine BJ ?_;first|refine BN ?_|refine BO ?_)|refine BV (so.o.rs.lenv (by rfl)) ?_|refine BP ?_)|(refine BK ?_;first|refine BS rfl rfl ?_|refine BT rfl rfl ?_|refine BU rfl ?_)|(refine BL ?_;first|refine BQ ?_)|(refine BR ?_;try simp only [setS]))|refine AA ?_|refine AC ?_|refine AD ?_|refine AE ?_|refine AF rfl rfl ?_|refine AG rfl rfl ?_|refine AH ?_|refine AI ?_|refine AJ ?_|refine AK ?_|refine AL ?_|refine AM ?_|refine AN ?_|refine AO ?_|refine AP ?_|refine AQ rfl ?_|refine AR ?_|refine AS ?_|refine AT rfl ?_|refine AU rfl ?_
  refine wr_call_e rfl ((within_ok hE T.q.within hc (lo := 0) (hi := (ls.length : Nat)) (by omega) (by omega) (by omega)).mono fun z h1 ⟨e1, e2⟩ => ?_)
  subst e2
  have e1 := e1.symm
  subst e1
  have hw := withinF_in (n := c) (lo := 0) (hi := (ls.length : Nat)) (by omega)
  generalize withinF c 0 (ls.length : Nat) = k0 at *
  obtain ⟨k, rfl⟩ := Int.eq_ofNat_of_zero_le hw.1
  have hk : k ≤ ls.length := by omega
  repeat first|(refine BG ?_;first|(refine BH ?_;first|(refine BI ?_;refine BM ?_)|(refine BJ ?_;first|refine BN ?_|refine BO ?_)|refine BP ?_)|(refine BK ?_;first|refine BS rfl rfl ?_|refine BT rfl rfl ?_|refine BU rfl ?_)|(refine BL ?_;first|refine BQ ?_)|(refine BR ?_;try simp only [setS]))|refine AA ?_|refine AC ?_|refine AD ?_|refine AE ?_|refine AF rfl rfl ?_|refine AG rfl rfl ?_|refine AH ?_|refine AI ?_|refine AJ ?_|refine AK ?_|refine AL ?_|refine AM ?_|refine AN ?_|refine AO ?_|refine AP ?_|refine AQ rfl ?_|refine AR ?_|refine AS ?_|refine AT rfl ?_|refine AU rfl ?_
  refine wb_hq (h' := hh.push (.rw (hows3.map iv))) rfl ?_
  have r3 : RS (hh.push (.rw (hows3.map iv))) 1 (.slice 1 hh.n 0 3 (some 3)) 3 (hows3.map iv) := rs_push rfl
  have kp : Keep NoB hh (hh.push (.rw (hows3.map iv))) := Keep.push _ _ _
  have so := so.up kp
  have hnn : hh.n < (hh.push (.rw (hows3.map iv))).n := Nat.lt_succ_self _
  generalize hh.push (.rw (hows3.map iv)) = h2 at *
  obtain ⟨v1, sv1, sl1⟩ := Sers.sl so.l so.o.rs (by omega) (lo := 0) (hi := k) (by omega) hk
  obtain ⟨v2, sv2, sl2⟩ := Sers.sl so.l so.o.rs (by omega) (lo := k) (hi := ls.length) hk (Nat.le_refl _)
  have ee1 : (ls.drop 0).take (k - 0) = ls.take k := by simp
  have ee2 : (ls.drop k).take (ls.length - k) = ls.drop k := List.take_of_length_le (by rw [List.length_drop]; omega)
  rw [ee1] at sv1
  rw [ee2] at sv2
  have sv3 := so.sers (by omega)
  have hT8 : (tmsG 0 (st.take 8)).length ≤ 1000 := by omega
  refine wb_loop (fun n t h3 => ∃ (j : Nat) (s7 s8 s9 s10 s11 s12 s13 s14 s15 s20 s21 : AV), j ≤ 3 ∧ n = 3 - j ∧ Keep NoB h2 h3 ∧ t = [v, w, .int .i64 c, .bool false, vo, .int .i64 i, .int .i64 k, s7, s8, s9, s10, s11, s12, s13, s14, s15, s16, .slice 1 hh.n 0 3 (some 3), .int .i64 3, .int .i64 j, s20, s21]) ?_ 3 _ _ ⟨0, _, _, _, _, _, _, _, _, _, _, _, by omega, by omega, Keep.refl _ _, rfl⟩
  rintro n t h3 ⟨j, s7, s8, s9, s10, s11, s12, s13, s14, s15, s20, s21, hj, hm, K3, rfl⟩
  by_cases hlt : j < 3
  · obtain ⟨how, hh'⟩ : ∃ how, hows3[j]? = some how := ⟨_, List.getElem?_eq_getElem (show j < hows3.length from hlt)⟩
    have hmem : how ∈ hows3 := List.mem_of_getElem? hh'
    have hh3 : how = 1 ∨ how = 2 ∨ how = 3 := by simpa [hows3] using hmem
    obtain ⟨g, o, c0, c1⟩ := (r3.up K3).at2 hlt
    have lc : ∀ {e : En} {t : List AV} {x : Od}, x.ev e t = .ptr g o → (Mv.ld1 x).ev e t h3 = some (.int .i64 how) := fun hx => by rw [c1 (Keep.refl NoB h3) (fun _ _ q => q) hx, iv_at hh']
    obtain ⟨A, B, W0, q1, q2, q3, q4, q5, q6⟩ := agg_parts hh3 hz (by rw [hzb]; simp only [maxN]; omega) (by simp only [maxN]; omega) k hk
    repeat first|(refine BG ?_;first|(refine BH ?_;first|(refine BI ?_;refine BM ?_)|(refine BJ ?_;first|refine BN ?_|refine BO ?_)|refine BV (c0 rfl rfl) ?_|refine BV (lc rfl) ?_|refine BV (sl1 rfl (.inl ⟨rfl, rfl⟩) (.inr ⟨_, _, rfl, rfl⟩)) ?_|refine BP ?_)|(refine BK ?_;first|refine BS rfl rfl ?_|refine BT rfl rfl ?_|refine BU rfl ?_)|(refine BL ?_;first|refine BQ ?_)|(refine BR ?_;try simp only [setS]))|refine AA ?_|refine AC ?_|refine AD ?_|refine AE ?_|refine AF rfl rfl ?_|refine AG rfl rfl ?_|refine AH ?_|refine AI ?_|refine AJ ?_|refine AK ?_|refine AL ?_|refine AM ?_|refine AN ?_|refine AO ?_|refine AP ?_|refine AQ rfl ?_|refine AR ?_|refine AS ?_|refine AT rfl ?_|refine AU rfl ?_
    refine wr_call_e rfl ((ado_ok hE T.toQaN (sv1.up K3) (fun l hl => hll8 l (List.mem_of_mem_take hl)) how).mono fun x h4 ⟨k4, w4, e4, hw4, _⟩ => ?_)
    subst e4
    rw [q1] at hw4 ⊢
    have K4 := K3.and k4
    repeat first|(refine BG ?_;first|(refine BH ?_;first|(refine BI ?_;refine BM ?_)|(refine BJ ?_;first|refine BN ?_|refine BO ?_)|refine BV (sl2 rfl (.inr ⟨_, _, rfl, rfl⟩) (.inl ⟨rfl, rfl⟩)) ?_|refine BP ?_)|(refine BK ?_;first|refine BS rfl rfl ?_|refine BT rfl rfl ?_|refine BU rfl ?_)|(refine BL ?_;first|refine BQ ?_)|(refine BR ?_;try simp only [setS]))|refine AA ?_|refine AC ?_|refine AD ?_|refine AE ?_|refine AF rfl rfl ?_|refine AG rfl rfl ?_|refine AH ?_|refine AI ?_|refine AJ ?_|refine AK ?_|refine AL ?_|refine AM ?_|refine AN ?_|refine AO ?_|refine AP ?_|refine AQ rfl ?_|refine AR ?_|refine AS ?_|refine AT rfl ?_|refine AU rfl ?_
    refine wr_call_e rfl ((ado_ok hE T.toQaN (sv2.up K4) (fun l hl => hll8 l (List.mem_of_mem_drop hl)) how).mono fun x h5 ⟨k5, w5, e5, hw5, _⟩ => ?_)
    subst e5
    rw [q2] at hw5 ⊢
    have K5 := K4.and k5
    repeat first|(refine BG ?_;first|(refine BH ?_;first|(refine BI ?_;refine BM ?_)|(refine BJ ?_;first|refine BN ?_|refine BO ?_)|refine BP ?_)|(refine BK ?_;first|refine BS rfl rfl ?_|refine BT rfl rfl ?_|refine BU rfl ?_)|(refine BL ?_;first|refine BQ ?_)|(refine BR ?_;try simp only [setS]))|refine AA ?_|refine AC ?_|refine AD ?_|refine AE ?_|refine AF rfl rfl ?_|refine AG rfl rfl ?_|refine AH ?_|refine AI ?_|refine AJ ?_|refine AK ?_|refine AL ?_|refine AM ?_|refine AN ?_|refine AO ?_|refine AP ?_|refine AQ rfl ?_|refine AR ?_|refine AS ?_|refine AT rfl ?_|refine AU rfl ?_
    refine wr_call_e rfl ((ado_ok hE T.toQaN (sv3.up K5) hll8 how).mono fun x h6 ⟨k6, w6, e6, hw6, _⟩ => ?_)
    subst e6
    rw [q3] at hw6 ⊢
    have K6 := K5.and k6
    have hw4 := (hw4.up k5).up k6
    have hw5 := hw5.up k6
    repeat first|(refine BG ?_;first|(refine BH ?_;first|(refine BI ?_;refine BM ?_)|(refine BJ ?_;first|refine BN ?_|refine BO ?_)|refine BP ?_)|(refine BK ?_;first|refine BS rfl rfl ?_|refine BT rfl rfl ?_|refine BU rfl ?_)|(refine BL ?_;first|refine BW (ef_bs2 rfl rfl hw4.one hw5.one) ?_|refine BQ ?_)|(refine BR ?_;try simp only [setS]))|refine AA ?_|refine AC ?_|refine AD ?_|refine AE ?_|refine AF rfl rfl ?_|refine AG rfl rfl ?_|refine AH ?_|refine AI ?_|refine AJ ?_|refine AK ?_|refine AL ?_|refine AM ?_|refine AN ?_|refine AO ?_|refine AP ?_|refine AQ rfl ?_|refine AR ?_|refine AS ?_|refine AT rfl ?_|refine AU rfl ?_
    have kq : Keep NoB h6 (h6.push (.rw [w4, w5])) := Keep.push _ _ _
    refine wr_call_e rfl ((ado_ok hE T.toQaN (SerL.laid (.cons hw4 (.cons hw5 .nil)) (by simp)) (by
      intro l hl
      simp at hl
      rcases hl with rfl | rfl
      · exact ser_len hT8 q5
      · exact ser_len hT8 q6) how).mono fun x h7 ⟨k7, w7, e7, hw7, _⟩ => ?_)
    subst e7
    rw [q4] at hw7 ⊢
    have K7 := (K6.and kq).and k7
    repeat first|(refine BG ?_;first|(refine BH ?_;first|(refine BI ?_;refine BM ?_)|(refine BJ ?_;first|refine BN ?_|refine BO ?_)|refine BP ?_)|(refine BK ?_;first|refine BS rfl rfl ?_|refine BT rfl rfl ?_|refine BU rfl ?_)|(refine BL ?_;first|refine BQ ?_)|(refine BR ?_;try simp only [setS]))|refine AA ?_|refine AC ?_|refine AD ?_|refine AE ?_|refine AF rfl rfl ?_|refine AG rfl rfl ?_|refine AH ?_|refine AI ?_|refine AJ ?_|refine AK ?_|refine AL ?_|refine AM ?_|refine AN ?_|refine AO ?_|refine AP ?_|refine AQ rfl ?_|refine AR ?_|refine AS ?_|refine AT rfl ?_|refine AU rfl ?_
    refine wr_call_e rfl ((same21_ok hE T.q.same hw7 ((hw6.up kq).up k7)).mono fun x h8 ⟨e8, e9⟩ => ?_)
    have e8 := e8.symm
    subst e8 e9
    rw [decide_eq_true (rfl : W0 = W0)]
    repeat first|(refine BG ?_;first|(refine BH ?_;first|(refine BI ?_;refine BM ?_)|(refine BJ ?_;first|refine BN ?_|refine BO ?_)|refine BV (v_notb rfl) ?_|refine BP ?_)|(refine BK ?_;first|refine BS rfl rfl ?_|refine BT rfl rfl ?_|refine BU rfl ?_)|(refine BL ?_;first|refine BQ ?_)|(refine BR ?_;try simp only [setS]))|refine AA ?_|refine AC ?_|refine AD ?_|refine AE ?_|refine AF rfl rfl ?_|refine AG rfl rfl ?_|refine AH ?_|refine AI ?_|refine AJ ?_|refine AK ?_|refine AL ?_|refine AM ?_|refine AN ?_|refine AO ?_|refine AP ?_|refine AQ rfl ?_|refine AR ?_|refine AS ?_|refine AT rfl ?_|refine AU rfl ?_
    rw [show ((j : Int) + 1) = ((j + 1 : Nat) : Int) by omega]
    exact round_norm (n - 1) (by omega) ⟨j + 1, _, _, _, _, _, _, _, _, _, _, _, by omega, by omega, K7, rfl⟩
  · obtain rfl : j = 3 := by omega
    repeat first|(refine BG ?_;first|(refine BH ?_;first|(refine BI ?_;refine BM ?_)|(refine BJ ?_;first|refine BN ?_|refine BO ?_)|refine BP ?_)|(refine BK ?_;first|refine BS rfl rfl ?_|refine BT rfl rfl ?_|refine BU rfl ?_)|(refine BL ?_;first|refine BQ ?_)|(refine BR ?_;try simp only [setS]))|refine AA ?_|refine AC ?_|refine AD ?_|refine AE ?_|refine AF rfl rfl ?_|refine AG rfl rfl ?_|refine AH ?_|refine AI ?_|refine AJ ?_|refine AK ?_|refine AL ?_|refine AM ?_|refine AN ?_|refine AO ?_|refine AP ?_|refine AQ rfl ?_|refine AR ?_|refine AS ?_|refine AT rfl ?_|refine AU rfl ?_
    refine wr_call_e rfl ((wf_true hE T.known).mono fun x h5 ⟨e5, e6⟩ => ?_)
    subst e6
    repeat first|(refine BG ?_;first|(refine BH ?_;first|(refine BI ?_;refine BM ?_)|(refine BJ ?_;first|refine BN ?_|refine BO ?_)|refine BP ?_)|(refine BK ?_;first|refine BS rfl rfl ?_|refine BT rfl rfl ?_|refine BU rfl ?_)|(refine BL ?_;first|refine BQ ?_)|(refine BR ?_;try simp only [setS]))|refine AA ?_|refine AC ?_|refine AD ?_|refine AE ?_|refine AF rfl rfl ?_|refine AG rfl rfl ?_|refine AH ?_|refine AI ?_|refine AJ ?_|refine AK ?_|refine AL ?_|refine AM ?_|refine AN ?_|refine AO ?_|refine AP ?_|refine AQ rfl ?_|refine AR ?_|refine AS ?_|refine AT rfl ?_|refine AU rfl ?_
    rfl
end
end Am
end Go.Proofs.Ytkgplkddpigagaa
