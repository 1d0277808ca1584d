/- Layer 23: the document's Agg. -/
import Derived.Test.YtkgplkddpigagaaQcC
set_option linter.unusedVariables false
set_option linter.unusedSimpArgs false
namespace Go.Proofs.Ytkgplkddpigagaa
namespace Am
open Go.RowKit
set_option maxRecDepth 100000
def b_ref21Agg : BF := ⟨80, [0, 1, 4, 5, 6, 7, 9, 10, 11, 12, 13, 14, 15, 16, 19, 23, 31, 33, 34, 35, 36, 42, 56, 58, 70], (.seq (.reg [.mk none (.slot 2) (.mov (.mv (.const .snil))), .mk none (.slot 3) (.mov (.mv (.const (.int .i64 0))))]) (.seq (.seq (.reg [.mk none (.env 17) (.mov (.mv (.slot 0))), .mk none (.env 18) (.call 34 [(.env 17)]), .mk none (.slot 14) (.mov (.notb (.env 18)))]) (.cond (.slot 14) (.seq (.reg [.mk none (.slot 2) (.mov (.mv (.const .snil))), .mk none (.slot 3) (.mov (.mv (.const (.int .i64 1))))]) .ret) .skip)) (.seq (.seq (.reg [.mk none (.slot 4) (.mov (.mv (.const (.int .i64 0))))]) (.block 0 (.loop (.seq (.seq (.reg [.mk none (.env 20) (.mov (.mv (.slot 4))), .mk none (.env 21) (.mov (.mv (.slot 1))), .mk none (.env 22) (.mov (.lenv (.env 21))), .mk none (.slot 15) (.mov (.bin .lss .no (.env 20) (.env 22)))]) (.cond (.slot 15) .skip (.exit 0))) (.seq (.block 1 (.seq (.reg [.mk none (.env 26) (.mov (.mv (.slot 1))), .mk none (.env 27) (.mov (.mv (.slot 4))), .mk none (.env 28) (.mov (.iaddr 1 (.env 26) (.env 27))), .mk none (.env 29) (.mov (.ld1 (.env 28))), .mk none (.env 30) (.call 35 [(.env 29)]), .mk none (.slot 16) (.mov (.notb (.env 30)))]) (.cond (.slot 16) (.seq (.reg [.mk none (.slot 2) (.mov (.mv (.const .snil))), .mk none (.slot 3) (.mov (.mv (.const (.int .i64 1))))]) .ret) .skip))) (.reg [.mk none (.env 24) (.mov (.mv (.slot 4))), .mk none (.env 25) (.mov (.bin .add .no (.env 24) (.const (.int .i64 1)))), .mk none (.slot 4) (.mov (.mv (.env 25)))])))))) (.seq (.reg [.mk none (.slot 5) (.mov (.mv (.const .snil)))]) (.seq (.seq (.reg [.mk none (.env 32) (.mov (.mv (.slot 1))), .mk none (.slot 17) (.call 20 [(.env 32)]), .mk none (.slot 18) (.mov (.lenv (.slot 17))), .mk none (.slot 19) (.mov (.mv (.const (.int .i64 0))))]) (.block 2 (.loop (.seq (.reg [.mk none (.slot 20) (.mov (.bin .lss .no (.slot 19) (.slot 18)))]) (.seq (.cond (.slot 20) .skip (.exit 2)) (.seq (.block 3 (.seq (.reg [.mk none (.env 37) (.mov (.iaddr 1 (.slot 17) (.slot 19))), .mk none (.env 38) (.mov (.ld1 (.env 37))), .mk none (.slot 6) (.mov (.mv (.env 38)))]) (.seq (.reg [.mk none (.slot 7) (.mov (.mv (.const .snil)))]) (.seq (.seq (.reg [.mk none (.slot 8) (.mov (.mv (.const (.int .i64 0))))]) (.block 4 (.loop (.seq (.seq (.reg [.mk none (.env 39) (.mov (.mv (.slot 8))), .mk none (.env 40) (.mov (.mv (.slot 1))), .mk none (.env 41) (.mov (.lenv (.env 40))), .mk none (.slot 21) (.mov (.bin .lss .no (.env 39) (.env 41)))]) (.cond (.slot 21) .skip (.exit 4))) (.seq (.block 5 (.seq (.reg [.mk none (.env 46) (.mov (.mv (.slot 1))), .mk none (.env 47) (.mov (.mv (.slot 8))), .mk none (.env 48) (.mov (.iaddr 1 (.env 46) (.env 47))), .mk none (.env 49) (.mov (.ld1 (.env 48))), .mk none (.env 50) (.mov (.mv (.slot 6))), .mk none (.env 51) (.call 36 [(.env 49), (.env 50)]), .mk none (.env 45) (.mov (.mv (.env 51))), .mk none (.env 52) (.mov (.ext 0 (.env 45))), .mk none (.env 53) (.mov (.ext 1 (.env 45))), .mk none (.env 54) (.mov (.ext 2 (.env 45))), .mk none (.slot 9) (.eff (.alloc [(.int .i64 0), (.int .i64 0)])), .mk none .none (.eff (.store 2 (.slot 9) (.env 52))), .mk none (.slot 10) (.mov (.mv (.env 53))), .mk none (.slot 11) (.mov (.mv (.env 54)))]) (.seq (.seq (.reg [.mk none (.env 55) (.mov (.mv (.slot 11))), .mk none (.slot 22) (.mov (.bin .neq .no (.env 55) (.const (.int .i64 0))))]) (.cond (.slot 22) (.seq (.reg [.mk none (.env 57) (.mov (.mv (.slot 11))), .mk none (.slot 2) (.mov (.mv (.const .snil))), .mk none (.slot 3) (.mov (.mv (.env 57)))]) .ret) .skip)) (.seq (.reg [.mk none (.slot 23) (.mov (.mv (.slot 10)))]) (.cond (.slot 23) (.reg [.mk none (.env 59) (.mov (.mv (.slot 7))), .mk none (.env 60) (.mov (.ldn 2 (.slot 9))), .mk none (.env 61) (.eff (.bslice 2 1 [(.int .i64 0), (.int .i64 0)] [(0, 2, (.env 60))])), .mk none (.env 62) (.eff (.append 2 16 (.env 59) (.env 61))), .mk none (.slot 7) (.mov (.mv (.env 62)))]) .skip))))) (.reg [.mk none (.env 43) (.mov (.mv (.slot 8))), .mk none (.env 44) (.mov (.bin .add .no (.env 43) (.const (.int .i64 1)))), .mk none (.slot 8) (.mov (.mv (.env 44)))])))))) (.seq (.reg [.mk none (.env 64) (.mov (.mv (.slot 0))), .mk none (.env 65) (.mov (.mv (.slot 7))), .mk none (.env 66) (.call 37 [(.env 64), (.env 65)]), .mk none (.env 63) (.mov (.mv (.env 66))), .mk none (.env 67) (.mov (.ext 0 (.env 63))), .mk none (.env 68) (.mov (.ext 1 (.env 63))), .mk none (.slot 12) (.eff (.alloc [(.int .i64 0), (.int .i64 0)])), .mk none .none (.eff (.store 2 (.slot 12) (.env 67))), .mk none (.slot 13) (.mov (.mv (.env 68)))]) (.seq (.seq (.reg [.mk none (.env 69) (.mov (.mv (.slot 13))), .mk none (.slot 24) (.mov (.bin .neq .no (.env 69) (.const (.int .i64 0))))]) (.cond (.slot 24) (.seq (.reg [.mk none (.env 71) (.mov (.mv (.slot 13))), .mk none (.slot 2) (.mov (.mv (.const .snil))), .mk none (.slot 3) (.mov (.mv (.env 71)))]) .ret) .skip)) (.reg [.mk none (.env 72) (.mov (.mv (.slot 5))), .mk none (.env 73) (.mov (.mv (.slot 6))), .mk none (.env 74) (.mov (.ldn 2 (.slot 12))), .mk none (.env 75) (.mov (.bld [(.int .i64 0), (.int .i64 0), (.int .i64 0)] [(0, 1, (.env 73)), (1, 2, (.env 74))])), .mk none (.env 76) (.eff (.bslice 3 1 [(.int .i64 0), (.int .i64 0), (.int .i64 0)] [(0, 3, (.env 75))])), .mk none (.env 77) (.eff (.append 3 24 (.env 72) (.env 76))), .mk none (.slot 5) (.mov (.mv (.env 77)))]))))))) (.reg [.mk none (.env 78) (.mov (.bin .add .no (.slot 19) (.const (.int .i64 1)))), .mk none (.slot 19) (.mov (.mv (.env 78)))]))))))) (.seq (.reg [.mk none (.env 79) (.mov (.mv (.slot 5))), .mk none (.slot 2) (.mov (.mv (.env 79))), .mk none (.slot 3) (.mov (.mv (.const (.int .i64 0))))]) .ret)))))), [.slot (.slot 2), .slot (.slot 3)]⟩
theorem Rats.nil {X : Type} {h : Hp X} : Rats h .snil [] := ⟨⟨rfl, rfl⟩, by simp, fun q hq => by cases hq⟩
section
variable {X : Type} {E : Nat → Option (Ent X)}
structure QeT (E : Nat → Option (Ent X)) : Prop extends QdT E where
  times : E 20 = some (.bc b_ref21Times)
  agg : E 18 = some (.bc b_ref21Agg)
set_option maxHeartbeats 4000000 in
theorem r21agg_ok (hE : ∀ f e, E f = some e → e.plain) (T : QeT E) {h : Hp X} {v : AV} {ls : List (List SM)} (a : Sers h v ls) (hl2 : ∀ l ∈ ls, l.length ≤ 1000) (how : Int) :
    WF (lim E) 18 [.int .i64 how, v] h fun x h' => Keep NoB h h' ∧ ∃ w, x = .tup [w, .int .i64 (aggF how ls).2] ∧ Ser h' w (aggF how ls).1 := by
  have hmx : (maxLen : Nat) = 9223372036854775807 := rfl
  refine wf_bc hE T.agg rfl ?_
  simp only [b_ref21Agg, List.map, getS]
  have hlen := a.len
  obtain ⟨cells, hrs, hat⟩ := a.out
  have nilS : ∀ {hh : Hp X}, Ser hh .snil [] := fun {hh} => ser_nil
  repeat first|(refine BG ?_;first|(refine BH ?_;first|(refine BI ?_;refine BM ?_)|(refine BJ ?_;first|refine BN ?_|refine BO ?_)|refine BP ?_)|(refine BK ?_;first|refine BS rfl rfl ?_|refine BT rfl rfl ?_|refine BU rfl ?_)|(refine BL ?_;first|refine BQ ?_)|(refine BR ?_;try simp only [setS]))|refine AA ?_|refine AC ?_|refine AD ?_|refine AE ?_|refine AF rfl rfl ?_|refine AG rfl rfl ?_|refine AH ?_|refine AI ?_|refine AJ ?_|refine AK ?_|refine AL ?_|refine AM ?_|refine AN ?_|refine AO ?_|refine AP ?_|refine AQ rfl ?_|refine AR ?_|refine AS ?_|refine AT rfl ?_|refine AU rfl ?_
  refine wr_call_e rfl ((r20right_ok hE T.right how).mono fun x h1 ⟨e1, e2⟩ => ?_)
  subst e2
  have e1 := e1.symm
  subst e1
  rcases Bool.eq_false_or_eq_true (decide (1 ≤ how) && decide (how ≤ 7)) with hh | hh
  case' inr =>
    have e : aggF how ls = ([], 1) := by unfold aggF; rw [if_pos (.inl hh)]
    rw [e, hh]
    repeat first|(refine BG ?_;first|(refine BH ?_;first|(refine BI ?_;refine BM ?_)|(refine BJ ?_;first|refine BN ?_|refine BO ?_)|refine BV (v_notb rfl) ?_|refine BP ?_)|(refine BK ?_;first|refine BS rfl rfl ?_|refine BT rfl rfl ?_|refine BU rfl ?_)|(refine BL ?_;first|refine BQ ?_)|(refine BR ?_;try simp only [setS]))|refine AA ?_|refine AC ?_|refine AD ?_|refine AE ?_|refine AF rfl rfl ?_|refine AG rfl rfl ?_|refine AH ?_|refine AI ?_|refine AJ ?_|refine AK ?_|refine AL ?_|refine AM ?_|refine AN ?_|refine AO ?_|refine AP ?_|refine AQ rfl ?_|refine AR ?_|refine AS ?_|refine AT rfl ?_|refine AU rfl ?_
    exact ⟨Keep.refl _ _, .snil, rfl, nilS⟩
  rw [hh]
  repeat first|(refine BG ?_;first|(refine BH ?_;first|(refine BI ?_;refine BM ?_)|(refine BJ ?_;first|refine BN ?_|refine BO ?_)|refine BV (v_notb rfl) ?_|refine BP ?_)|(refine BK ?_;first|refine BS rfl rfl ?_|refine BT rfl rfl ?_|refine BU rfl ?_)|(refine BL ?_;first|refine BQ ?_)|(refine BR ?_;try simp only [setS]))|refine AA ?_|refine AC ?_|refine AD ?_|refine AE ?_|refine AF rfl rfl ?_|refine AG rfl rfl ?_|refine AI ?_|refine AJ ?_|refine AK ?_|refine AL ?_|refine AM ?_|refine AN ?_|refine AO ?_|refine AP ?_|refine AQ rfl ?_|refine AR ?_|refine AS ?_|refine AT rfl ?_|refine AU rfl ?_
  refine wb_mid (fun t' h' => Keep NoB h h' ∧ (∀ l ∈ ls, RightS l) ∧ ∃ s4 s15 s16 : AV, t' = [.int .i64 how, v, .snil, .int .i64 0, s4, .bot, .bot, .bot, .bot, .bot, .bot, .bot, .bot, .bot, .bool false, s15, s16, .bot, .bot, .bot, .bot, .bot, .bot, .bot, .bot]) ?_ ?_
  · repeat first|(refine BG ?_;first|(refine BH ?_;first|(refine BI ?_;refine BM ?_)|(refine BJ ?_;first|refine BN ?_|refine BO ?_)|refine BP ?_)|(refine BK ?_;first|refine BS rfl rfl ?_|refine BT rfl rfl ?_|refine BU rfl ?_)|(refine BL ?_;first|refine BQ ?_)|(refine BR ?_;try simp only [setS]))|refine AA ?_|refine AC ?_|refine AD ?_|refine AE ?_|refine AF rfl rfl ?_|refine AG rfl rfl ?_|refine AH ?_|refine AI ?_|refine AJ ?_|refine AK ?_|refine AL ?_|refine AM ?_|refine AN ?_|refine AO ?_|refine AP ?_|refine AQ rfl ?_|refine AR ?_|refine AS ?_|refine AT rfl ?_|refine AU rfl ?_
    refine wb_loop (fun n t hx => ∃ (i : Nat) (s15 s16 : AV), i ≤ ls.length ∧ n = ls.length - i ∧ Keep NoB h hx ∧ (∀ (j : Nat) l, j < i → ls[j]? = some l → RightS l) ∧ t = [.int .i64 how, v, .snil, .int .i64 0, .int .i64 i, .bot, .bot, .bot, .bot, .bot, .bot, .bot, .bot, .bot, .bool false, s15, s16, .bot, .bot, .bot, .bot, .bot, .bot, .bot, .bot]) ?_ ls.length _ _ ⟨0, _, _, by omega, by omega, Keep.refl _ _, by omega, rfl⟩
    rintro n t hx ⟨i, s15, s16, hi, hm, K, hall, rfl⟩
    by_cases hlt : i < ls.length
    · obtain ⟨l, hl⟩ : ∃ l, ls[i]? = some l := ⟨_, List.getElem?_eq_getElem hlt⟩
      obtain ⟨c, hc, hser⟩ := hat i l hl
      obtain ⟨g, o, c0, c1⟩ := (hrs.up K).at2 hlt
      have lc : ∀ {e : En} {t : List AV} {x : Od}, x.ev e t = .ptr g o → (Mv.ld1 x).ev e t hx = some c := fun hx => by rw [c1 (Keep.refl NoB _) (fun _ _ q => q) hx]; exact hc
      repeat first|(refine BG ?_;first|(refine BH ?_;first|(refine BI ?_;refine BM ?_)|(refine BJ ?_;first|refine BN ?_|refine BO ?_)|refine BV ((hrs.up K).lenv (by rfl)) ?_|refine BV (c0 rfl rfl) ?_|refine BV (lc rfl) ?_|refine BP ?_)|(refine BK ?_;first|refine BS rfl rfl ?_|refine BT rfl rfl ?_|refine BU rfl ?_)|(refine BL ?_;first|refine BQ ?_)|(refine BR ?_;try simp only [setS]))|refine AA ?_|refine AC ?_|refine AD ?_|refine AE ?_|refine AF rfl rfl ?_|refine AG rfl rfl ?_|refine AH ?_|refine AI ?_|refine AJ ?_|refine AK ?_|refine AL ?_|refine AM ?_|refine AN ?_|refine AO ?_|refine AP ?_|refine AQ rfl ?_|refine AR ?_|refine AS ?_|refine AT rfl ?_|refine AU rfl ?_
      refine wr_call_e rfl ((r21right_ok hE T.toQdT (hser.up K)).mono fun x h3 ⟨k3, b, e3, hb⟩ => ?_)
      subst e3
      cases b with
      | false =>
        have hnr : ¬ RightS l := fun q => by have := hb.2 q; cases this
        have e : aggF how ls = ([], 1) := by unfold aggF; rw [if_pos (.inr ⟨l, List.mem_of_getElem? hl, hnr⟩)]
        rw [e]
        repeat first|(refine BG ?_;first|(refine BH ?_;first|(refine BI ?_;refine BM ?_)|(refine BJ ?_;first|refine BN ?_|refine BO ?_)|refine BV (v_notb rfl) ?_|refine BP ?_)|(refine BK ?_;first|refine BS rfl rfl ?_|refine BT rfl rfl ?_|refine BU rfl ?_)|(refine BL ?_;first|refine BQ ?_)|(refine BR ?_;try simp only [setS]))|refine AA ?_|refine AC ?_|refine AD ?_|refine AE ?_|refine AF rfl rfl ?_|refine AG rfl rfl ?_|refine AH ?_|refine AI ?_|refine AJ ?_|refine AK ?_|refine AL ?_|refine AM ?_|refine AN ?_|refine AO ?_|refine AP ?_|refine AQ rfl ?_|refine AR ?_|refine AS ?_|refine AT rfl ?_|refine AU rfl ?_
        refine mid_ret ?_
        repeat first|(refine BG ?_;first|(refine BH ?_;first|(refine BI ?_;refine BM ?_)|(refine BJ ?_;first|refine BN ?_|refine BO ?_)|refine BP ?_)|(refine BK ?_;first|refine BS rfl rfl ?_|refine BT rfl rfl ?_|refine BU rfl ?_)|(refine BL ?_;first|refine BQ ?_)|(refine BR ?_;try simp only [setS]))|refine AA ?_|refine AC ?_|refine AD ?_|refine AE ?_|refine AF rfl rfl ?_|refine AG rfl rfl ?_|refine AH ?_|refine AI ?_|refine AJ ?_|refine AK ?_|refine AL ?_|refine AM ?_|refine AN ?_|refine AO ?_|refine AP ?_|refine AQ rfl ?_|refine AR ?_|refine AS ?_|refine AT rfl ?_|refine AU rfl ?_
        exact ⟨K.and k3, .snil, rfl, nilS⟩
      | true =>
        repeat first|(refine BG ?_;first|(refine BH ?_;first|(refine BI ?_;refine BM ?_)|(refine BJ ?_;first|refine BN ?_|refine BO ?_)|refine BV (v_notb rfl) ?_|refine BP ?_)|(refine BK ?_;first|refine BS rfl rfl ?_|refine BT rfl rfl ?_|refine BU rfl ?_)|(refine BL ?_;first|refine BQ ?_)|(refine BR ?_;try simp only [setS]))|refine AA ?_|refine AC ?_|refine AD ?_|refine AE ?_|refine AF rfl rfl ?_|refine AG rfl rfl ?_|refine AH ?_|refine AI ?_|refine AJ ?_|refine AK ?_|refine AL ?_|refine AM ?_|refine AN ?_|refine AO ?_|refine AP ?_|refine AQ rfl ?_|refine AR ?_|refine AS ?_|refine AT rfl ?_|refine AU rfl ?_
        rw [show ((i : Int) + 1) = ((i + 1 : Nat) : Int) by omega]
        refine round_norm (n - 1) (by omega) ⟨i + 1, _, _, by omega, by omega, K.and k3, fun j l' hj hl' => ?_, rfl⟩
        by_cases hji : j = i
        · subst hji; rw [hl] at hl'; cases hl'; exact hb.1 rfl
        · exact hall j l' (by omega) hl'
    · repeat first|(refine BG ?_;first|(refine BH ?_;first|(refine BI ?_;refine BM ?_)|(refine BJ ?_;first|refine BN ?_|refine BO ?_)|refine BV ((hrs.up K).lenv (by rfl)) ?_|refine BP ?_)|(refine BK ?_;first|refine BS rfl rfl ?_|refine BT rfl rfl ?_|refine BU rfl ?_)|(refine BL ?_;first|refine BQ ?_)|(refine BR ?_;try simp only [setS]))|refine AA ?_|refine AC ?_|refine AD ?_|refine AE ?_|refine AF rfl rfl ?_|refine AG rfl rfl ?_|refine AH ?_|refine AI ?_|refine AJ ?_|refine AK ?_|refine AL ?_|refine AM ?_|refine AN ?_|refine AO ?_|refine AP ?_|refine AQ rfl ?_|refine AR ?_|refine AS ?_|refine AT rfl ?_|refine AU rfl ?_
      refine mid_norm ⟨K, fun l hl => ?_, _, _, _, rfl⟩
      obtain ⟨j, hj⟩ := List.mem_iff_getElem?.1 hl
      exact hall j l (by have := (List.getElem?_eq_some_iff.1 hj).1; omega) hj
  rintro t' h2 ⟨K2, hR, s4, s15, s16, rfl⟩
  have e : aggF how ls = aggG how ls [] (timesF ls) := by unfold aggF; rw [if_neg (by rintro (q | ⟨l, hl, q⟩); rw [hh] at q; cases q; exact q (hR l hl))]
  rw [e]
  repeat first|(refine BG ?_;first|(refine BH ?_;first|(refine BI ?_;refine BM ?_)|(refine BJ ?_;first|refine BN ?_|refine BO ?_)|refine BP ?_)|(refine BK ?_;first|refine BS rfl rfl ?_|refine BT rfl rfl ?_|refine BU rfl ?_)|(refine BL ?_;first|refine BQ ?_)|(refine BR ?_;try simp only [setS]))|refine AA ?_|refine AC ?_|refine AD ?_|refine AE ?_|refine AF rfl rfl ?_|refine AG rfl rfl ?_|refine AH ?_|refine AI ?_|refine AJ ?_|refine AK ?_|refine AL ?_|refine AM ?_|refine AN ?_|refine AO ?_|refine AP ?_|refine AQ rfl ?_|refine AR ?_|refine AS ?_|refine AT rfl ?_|refine AU rfl ?_
  refine wr_call_s rfl ((r21times_ok hE T.times (a.up K2) hl2).mono fun tv h3 ⟨k3, rT⟩ => ?_)
  have htl := timesF_len a.len hl2
  have ht64 : ∀ x ∈ timesF ls, I64 x := fun x hx => by
    obtain ⟨l, hl, s, hs, rfl⟩ := timesF_mem.1 hx
    obtain ⟨i, hi⟩ := List.mem_iff_getElem?.1 hl
    obtain ⟨c, _, hser⟩ := hat i l hi
    exact (hser.row s hs).1
  have K3 := K2.and k3
  generalize timesF ls = T0 at *
  repeat first|(refine BG ?_;first|(refine BH ?_;first|(refine BI ?_;refine BM ?_)|(refine BJ ?_;first|refine BN ?_|refine BO ?_)|refine BV (rT.lenv (by rfl)) ?_|refine BP ?_)|(refine BK ?_;first|refine BS rfl rfl ?_|refine BT rfl rfl ?_|refine BU rfl ?_)|(refine BL ?_;first|refine BQ ?_)|(refine BR ?_;try simp only [setS]))|refine AA ?_|refine AC ?_|refine AD ?_|refine AE ?_|refine AF rfl rfl ?_|refine AG rfl rfl ?_|refine AH ?_|refine AI ?_|refine AJ ?_|refine AK ?_|refine AL ?_|refine AM ?_|refine AN ?_|refine AO ?_|refine AP ?_|refine AQ rfl ?_|refine AR ?_|refine AS ?_|refine AT rfl ?_|refine AU rfl ?_
  refine wb_loop (fun n t hh => ∃ (i : Nat) (out : List SM) (vo s6 s7 s8 s9 s10 s11 s12 s13 s20 s21 s22 s23 s24 : AV), i ≤ T0.length ∧ n = T0.length - i ∧ Keep NoB h3 hh ∧ out.length = i ∧ (∀ s ∈ out, I64 s.t ∧ I64Q s.q) ∧ OS hh 3 vo out.length (out.flatMap sc) ∧ (∀ k, blk vo k → h3.n ≤ k) ∧ aggG how ls [] T0 = aggG how ls out (T0.drop i) ∧ t = [.int .i64 how, v, .snil, .int .i64 0, s4, vo, s6, s7, s8, s9, s10, s11, s12, s13, .bool false, s15, s16, tv, .int .i64 T0.length, .int .i64 i, s20, s21, s22, s23, s24]) ?_ T0.length _ _ ⟨0, [], .snil, _, _, _, _, _, _, _, _, _, _, _, _, _, by omega, by omega, Keep.refl _ _, rfl, (fun s hs => by cases hs), ⟨rfl, rfl⟩, (fun k q => q.elim), rfl, rfl⟩
  rintro n t hh ⟨i, out, vo, s6, s7, s8, s9, s10, s11, s12, s13, s20, s21, s22, s23, s24, hi, hm, K, hol, hoi, ho, hlo, hgo, rfl⟩
  by_cases hlt : i < T0.length
  · obtain ⟨t0, ht⟩ : ∃ t0, T0[i]? = some t0 := ⟨_, List.getElem?_eq_getElem hlt⟩
    obtain ⟨g, o, c0, c1⟩ := (rT.up K).at2 hlt
    have lc : ∀ {e : En} {t : List AV} {x : Od}, x.ev e t = .ptr g o → (Mv.ld1 x).ev e t hh = some (.int .i64 t0) := fun hx => by rw [c1 (Keep.refl NoB hh) (fun _ _ q => q) hx, iv_at ht]
    have KH := K3.and K
    have hnh := K.n
    have hdr : T0.drop i = t0 :: T0.drop (i + 1) := by rw [List.drop_eq_getElem_cons hlt]; congr 1; exact (List.getElem?_eq_some_iff.1 ht).2
    have hgo2 : aggG how ls out (T0.drop i) = if (atsG t0 [] ls).2 ≠ 0 then ([], (atsG t0 [] ls).2) else if (foldF how (atsG t0 [] ls).1).2 ≠ 0 then ([], (foldF how (atsG t0 [] ls).1).2) else aggG how ls (out ++ [⟨t0, (foldF how (atsG t0 [] ls).1).1⟩]) (T0.drop (i + 1)) := by rw [hdr]; rfl
    rw [hgo2] at hgo
    repeat first|(refine BG ?_;first|(refine BH ?_;first|(refine BI ?_;refine BM ?_)|(refine BJ ?_;first|refine BN ?_|refine BO ?_)|refine BV (c0 rfl rfl) ?_|refine BV (lc rfl) ?_|refine BP ?_)|(refine BK ?_;first|refine BS rfl rfl ?_|refine BT rfl rfl ?_|refine BU rfl ?_)|(refine BL ?_;first|refine BQ ?_)|(refine BR ?_;try simp only [setS]))|refine AA ?_|refine AC ?_|refine AD ?_|refine AE ?_|refine AF rfl rfl ?_|refine AG rfl rfl ?_|refine AI ?_|refine AJ ?_|refine AK ?_|refine AL ?_|refine AM ?_|refine AN ?_|refine AO ?_|refine AP ?_|refine AQ rfl ?_|refine AR ?_|refine AS ?_|refine AT rfl ?_|refine AU rfl ?_
    refine AH ?_
    repeat first|(refine BG ?_;first|(refine BH ?_;first|(refine BI ?_;refine BM ?_)|(refine BJ ?_;first|refine BN ?_|refine BO ?_)|refine BV (c0 rfl rfl) ?_|refine BV (lc rfl) ?_|refine BP ?_)|(refine BK ?_;first|refine BS rfl rfl ?_|refine BT rfl rfl ?_|refine BU rfl ?_)|(refine BL ?_;first|refine BQ ?_)|(refine BR ?_;try simp only [setS]))|refine AA ?_|refine AC ?_|refine AD ?_|refine AE ?_|refine AF rfl rfl ?_|refine AG rfl rfl ?_|refine AI ?_|refine AJ ?_|refine AK ?_|refine AL ?_|refine AM ?_|refine AN ?_|refine AO ?_|refine AP ?_|refine AQ rfl ?_|refine AR ?_|refine AS ?_|refine AT rfl ?_|refine AU rfl ?_
    refine wb_mid (fun t' h' => (atsG t0 [] ls).2 = 0 ∧ Keep NoB hh h' ∧ ∃ vq s8 s9 s10 s11 s21 s22 s23 : AV, Rats h' vq (atsG t0 [] ls).1 ∧ t' = [.int .i64 how, v, .snil, .int .i64 0, s4, vo, .int .i64 t0, vq, s8, s9, s10, s11, s12, s13, .bool false, s15, s16, tv, .int .i64 T0.length, .int .i64 i, .bool true, s21, s22, s23, s24]) ?_ ?_
    · repeat first|(refine BG ?_;first|(refine BH ?_;first|(refine BI ?_;refine BM ?_)|(refine BJ ?_;first|refine BN ?_|refine BO ?_)|refine BP ?_)|(refine BK ?_;first|refine BS rfl rfl ?_|refine BT rfl rfl ?_|refine BU rfl ?_)|(refine BL ?_;first|refine BQ ?_)|(refine BR ?_;try simp only [setS]))|refine AA ?_|refine AC ?_|refine AD ?_|refine AE ?_|refine AF rfl rfl ?_|refine AG rfl rfl ?_|refine AH ?_|refine AI ?_|refine AJ ?_|refine AK ?_|refine AL ?_|refine AM ?_|refine AN ?_|refine AO ?_|refine AP ?_|refine AQ rfl ?_|refine AR ?_|refine AS ?_|refine AT rfl ?_|refine AU rfl ?_
      refine wb_loop (fun n t h4 => ∃ (j : Nat) (q : List QQ) (vq s9 s10 s11 s21 s22 s23 : AV), j ≤ ls.length ∧ n = ls.length - j ∧ Keep NoB hh h4 ∧ q.length ≤ j ∧ (∀ z ∈ q, I64Q z) ∧ OS h4 2 vq q.length (q.flatMap qc) ∧ (∀ k, blk vq k → hh.n ≤ k) ∧ atsG t0 [] ls = atsG t0 q (ls.drop j) ∧ t = [.int .i64 how, v, .snil, .int .i64 0, s4, vo, .int .i64 t0, vq, .int .i64 j, s9, s10, s11, s12, s13, .bool false, s15, s16, tv, .int .i64 T0.length, .int .i64 i, .bool true, s21, s22, s23, s24]) ?_ ls.length _ _ ⟨0, [], .snil, _, _, _, _, _, _, by omega, by omega, Keep.refl _ _, Nat.le_refl _, (fun s hs => by cases hs), ⟨rfl, rfl⟩, (fun k q => q.elim), rfl, rfl⟩
      rintro n2 t h4 ⟨j, q, vq, s9, s10, s11, s21, s22, s23, hj, hm2, K4, hql, hqi, oq, hql2, hga, rfl⟩
      by_cases hjl : j < ls.length
      · obtain ⟨l, hl⟩ : ∃ l, ls[j]? = some l := ⟨_, List.getElem?_eq_getElem hjl⟩
        obtain ⟨c, hc, hser⟩ := hat j l hl
        have KK := KH.and K4
        obtain ⟨g', o', d0, d1⟩ := (hrs.up KK).at2 hjl
        have ld : ∀ {e : En} {t : List AV} {x : Od}, x.ev e t = .ptr g' o' → (Mv.ld1 x).ev e t h4 = some c := fun hx => by rw [d1 (Keep.refl NoB _) (fun _ _ q => q) hx]; exact hc
        repeat first|(refine BG ?_;first|(refine BH ?_;first|(refine BI ?_;refine BM ?_)|(refine BJ ?_;first|refine BN ?_|refine BO ?_)|refine BV ((hrs.up KK).lenv (by rfl)) ?_|refine BV (d0 rfl rfl) ?_|refine BV (ld rfl) ?_|refine BP ?_)|(refine BK ?_;first|refine BS rfl rfl ?_|refine BT rfl rfl ?_|refine BU rfl ?_)|(refine BL ?_;first|refine BQ ?_)|(refine BR ?_;try simp only [setS]))|refine AA ?_|refine AC ?_|refine AD ?_|refine AE ?_|refine AF rfl rfl ?_|refine AG rfl rfl ?_|refine AH ?_|refine AI ?_|refine AJ ?_|refine AK ?_|refine AL ?_|refine AM ?_|refine AN ?_|refine AO ?_|refine AP ?_|refine AQ rfl ?_|refine AR ?_|refine AS ?_|refine AT rfl ?_|refine AU rfl ?_
        refine wr_call_e rfl ((r21at_ok hE T.toQdT (hser.up KK) t0).mono fun x h5 ⟨k5, e5⟩ => ?_)
        subst e5
        have hdr2 : ls.drop j = l :: ls.drop (j + 1) := by rw [List.drop_eq_getElem_cons hjl]; congr 1; exact (List.getElem?_eq_some_iff.1 hl).2
        have hga2 : atsG t0 q (ls.drop j) = if (atF l t0).2 ≠ 0 then ([], (atF l t0).2) else atsG t0 (if (atF l t0).1.2 = true then q ++ [(atF l t0).1.1] else q) (ls.drop (j + 1)) := by rw [hdr2]; rfl
        rw [hga2] at hga
        have hqx := atF_i64 (t := t0) (fun s hs => (hser.row s hs).2)
        generalize atF l t0 = r at *
        obtain ⟨⟨⟨n1, n2'⟩, ok⟩, er⟩ := r
        have K5 := K4.and k5
        have oq5 := oq.up k5
        have bS : Bx (h5.push (.rw [.int .i64 0, .int .i64 0])) h5.n [.int .i64 0, .int .i64 0] := bx_push
        have kS : Keep NoB h5 (h5.push (.rw [.int .i64 0, .int .i64 0])) := Keep.push _ _ _
        repeat first|(refine BG ?_;first|(refine BH ?_;first|(refine BI ?_;refine BM ?_)|(refine BJ ?_;first|refine BN ?_|refine BO ?_)|refine BP ?_)|(refine BK ?_;first|refine BS rfl rfl ?_|refine BT rfl rfl ?_|refine BU rfl ?_)|(refine BL ?_;first|refine BW (ef_bxn bS rfl rfl rfl rfl (Nat.le_refl _)) ?_|refine BQ ?_)|(refine BR ?_;try simp only [setS]))|refine AA ?_|refine AC ?_|refine AD ?_|refine AE ?_|refine AF rfl rfl ?_|refine AG rfl rfl ?_|refine AH ?_|refine AI ?_|refine AJ ?_|refine AK ?_|refine AL ?_|refine AM ?_|refine AN ?_|refine AO ?_|refine AP ?_|refine AQ rfl ?_|refine AR ?_|refine AS ?_|refine AT rfl ?_|refine AU rfl ?_
        refine wb_hq (h' := (h5.push (.rw [.int .i64 0, .int .i64 0])).put h5.n (.rw [.int .i64 n1, .int .i64 n2'])) rfl ?_
        have kS2 : Keep NoB h5 ((h5.push (.rw [.int .i64 0, .int .i64 0])).put h5.n (.rw [.int .i64 n1, .int .i64 n2'])) := kS.own (Keep.put (h5.push (.rw [.int .i64 0, .int .i64 0])) h5.n (.rw [.int .i64 n1, .int .i64 n2']) (S := OneB h5.n) rfl) (fun k q => Nat.le_of_eq q.symm)
        have bS : Bx ((h5.push (.rw [.int .i64 0, .int .i64 0])).put h5.n (.rw [.int .i64 n1, .int .i64 n2'])) h5.n [.int .i64 n1, .int .i64 n2'] := bS.put
        have oq6 := oq5.up kS2
        have K6 := K5.and kS2
        clear kS
        generalize (h5.push (.rw [.int .i64 0, .int .i64 0])).put h5.n (.rw [.int .i64 n1, .int .i64 n2']) = h6 at *
        by_cases her : er = 0
        case' neg =>
          rw [show (er != 0) = true by simp [her]]
          rw [if_pos (by simpa using her)] at hga
          rw [hga] at hgo
          rw [if_pos (by simpa using her)] at hgo
          rw [hgo]
          repeat first|(refine BG ?_;first|(refine BH ?_;first|(refine BI ?_;refine BM ?_)|(refine BJ ?_;first|refine BN ?_|refine BO ?_)|refine BP ?_)|(refine BK ?_;first|refine BS rfl rfl ?_|refine BT rfl rfl ?_|refine BU rfl ?_)|(refine BL ?_;first|refine BQ ?_)|(refine BR ?_;try simp only [setS]))|refine AA ?_|refine AC ?_|refine AD ?_|refine AE ?_|refine AF rfl rfl ?_|refine AG rfl rfl ?_|refine AH ?_|refine AI ?_|refine AJ ?_|refine AK ?_|refine AL ?_|refine AM ?_|refine AN ?_|refine AO ?_|refine AP ?_|refine AQ rfl ?_|refine AR ?_|refine AS ?_|refine AT rfl ?_|refine AU rfl ?_
          refine mid_ret ?_
          repeat first|(refine BG ?_;first|(refine BH ?_;first|(refine BI ?_;refine BM ?_)|(refine BJ ?_;first|refine BN ?_|refine BO ?_)|refine BP ?_)|(refine BK ?_;first|refine BS rfl rfl ?_|refine BT rfl rfl ?_|refine BU rfl ?_)|(refine BL ?_;first|refine BQ ?_)|(refine BR ?_;try simp only [setS]))|refine AA ?_|refine AC ?_|refine AD ?_|refine AE ?_|refine AF rfl rfl ?_|refine AG rfl rfl ?_|refine AH ?_|refine AI ?_|refine AJ ?_|refine AK ?_|refine AL ?_|refine AM ?_|refine AN ?_|refine AO ?_|refine AP ?_|refine AQ rfl ?_|refine AR ?_|refine AS ?_|refine AT rfl ?_|refine AU rfl ?_
          exact ⟨KH.and K6, .snil, rfl, nilS⟩
        subst her
        rw [if_neg (by simp)] at hga
        cases ok with
        | false =>
          repeat first|(refine BG ?_;first|(refine BH ?_;first|(refine BI ?_;refine BM ?_)|(refine BJ ?_;first|refine BN ?_|refine BO ?_)|refine BP ?_)|(refine BK ?_;first|refine BS rfl rfl ?_|refine BT rfl rfl ?_|refine BU rfl ?_)|(refine BL ?_;first|refine BQ ?_)|(refine BR ?_;try simp only [setS]))|refine AA ?_|refine AC ?_|refine AD ?_|refine AE ?_|refine AF rfl rfl ?_|refine AG rfl rfl ?_|refine AH ?_|refine AI ?_|refine AJ ?_|refine AK ?_|refine AL ?_|refine AM ?_|refine AN ?_|refine AO ?_|refine AP ?_|refine AQ rfl ?_|refine AR ?_|refine AS ?_|refine AT rfl ?_|refine AU rfl ?_
          rw [show ((j : Int) + 1) = ((j + 1 : Nat) : Int) by omega]
          exact round_norm (n2 - 1) (by omega) ⟨j + 1, q, vq, _, _, _, _, _, _, by omega, by omega, K6, by omega, hqi, oq6, hql2, hga, rfl⟩
        | true =>
          rw [if_pos rfl] at hga
          repeat first|(refine BG ?_;first|(refine BH ?_;first|(refine BI ?_;refine BM ?_)|(refine BJ ?_;first|refine BN ?_|refine BO ?_)|refine BV (v_bxn bS rfl (Nat.le_refl _)) ?_|refine BP ?_)|(refine BK ?_;first|refine BS rfl rfl ?_|refine BT rfl rfl ?_|refine BU rfl ?_)|(refine BL ?_;first|refine BW (ef_bsq (q := (n1, n2')) rfl) ?_|refine BQ ?_)|(refine BR ?_;try simp only [setS]))|refine AA ?_|refine AC ?_|refine AD ?_|refine AE ?_|refine AF rfl rfl ?_|refine AG rfl rfl ?_|refine AH ?_|refine AI ?_|refine AJ ?_|refine AK ?_|refine AL ?_|refine AM ?_|refine AN ?_|refine AO ?_|refine AP ?_|refine AQ rfl ?_|refine AR ?_|refine AS ?_|refine AT rfl ?_|refine AU rfl ?_
          have kq : Keep NoB h6 (h6.push (.rw (qc (n1, n2')))) := Keep.push _ _ _
          have hlo6 := K6.n
          refine wr_app_e rfl rfl (oq6.up kq) (by decide) (rs_push (n := 1) (z := 2) rfl) (by omega) (by omega) fun v' h' a1 a2 a3 => ?_
          have K7 := (K6.and kq).own a2 hql2
          have lo7 : ∀ k, blk v' k → hh.n ≤ k := fun k q => by
            rcases a3 k q with q | q
            · exact hql2 k q
            · simp only [push_n] at q; omega
          repeat first|(refine BG ?_;first|(refine BH ?_;first|(refine BI ?_;refine BM ?_)|(refine BJ ?_;first|refine BN ?_|refine BO ?_)|refine BP ?_)|(refine BK ?_;first|refine BS rfl rfl ?_|refine BT rfl rfl ?_|refine BU rfl ?_)|(refine BL ?_;first|refine BQ ?_)|(refine BR ?_;try simp only [setS]))|refine AA ?_|refine AC ?_|refine AD ?_|refine AE ?_|refine AF rfl rfl ?_|refine AG rfl rfl ?_|refine AH ?_|refine AI ?_|refine AJ ?_|refine AK ?_|refine AL ?_|refine AM ?_|refine AN ?_|refine AO ?_|refine AP ?_|refine AQ rfl ?_|refine AR ?_|refine AS ?_|refine AT rfl ?_|refine AU rfl ?_
          rw [show ((j : Int) + 1) = ((j + 1 : Nat) : Int) by omega]
          refine round_norm (n2 - 1) (by omega) ⟨j + 1, q ++ [(n1, n2')], v', _, _, _, _, _, _, by omega, by omega, K7, by rw [List.length_append]; simp; omega, fun z hz => ?_, ?_, lo7, hga, rfl⟩
          · rcases List.mem_append.1 hz with hz | hz
            · exact hqi z hz
            · simp at hz; subst hz; exact hqx
          · rw [List.length_append, List.flatMap_append]
            simpa using a1
      · obtain rfl : j = ls.length := by omega
        rw [List.drop_length] at hga
        have hga : atsG t0 [] ls = (q, 0) := hga
        repeat first|(refine BG ?_;first|(refine BH ?_;first|(refine BI ?_;refine BM ?_)|(refine BJ ?_;first|refine BN ?_|refine BO ?_)|refine BV ((hrs.up (KH.and K4)).lenv (by rfl)) ?_|refine BP ?_)|(refine BK ?_;first|refine BS rfl rfl ?_|refine BT rfl rfl ?_|refine BU rfl ?_)|(refine BL ?_;first|refine BQ ?_)|(refine BR ?_;try simp only [setS]))|refine AA ?_|refine AC ?_|refine AD ?_|refine AE ?_|refine AF rfl rfl ?_|refine AG rfl rfl ?_|refine AH ?_|refine AI ?_|refine AJ ?_|refine AK ?_|refine AL ?_|refine AM ?_|refine AN ?_|refine AO ?_|refine AP ?_|refine AQ rfl ?_|refine AR ?_|refine AS ?_|refine AT rfl ?_|refine AU rfl ?_
        rw [hga]
        exact mid_norm ⟨rfl, K4, vq, _, _, _, _, _, _, _, ⟨oq.rs, (show q.length ≤ 1000000 by omega), hqi⟩, rfl⟩
    rintro t' h4 ⟨hz, K4, vq, s8, s9, s10, s11, s21, s22, s23, hra, rfl⟩
    rw [if_neg (by simp [hz])] at hgo
    generalize (atsG t0 [] ls).1 = vals at *
    repeat first|(refine BG ?_;first|(refine BH ?_;first|(refine BI ?_;refine BM ?_)|(refine BJ ?_;first|refine BN ?_|refine BO ?_)|refine BP ?_)|(refine BK ?_;first|refine BS rfl rfl ?_|refine BT rfl rfl ?_|refine BU rfl ?_)|(refine BL ?_;first|refine BQ ?_)|(refine BR ?_;try simp only [setS]))|refine AA ?_|refine AC ?_|refine AD ?_|refine AE ?_|refine AF rfl rfl ?_|refine AG rfl rfl ?_|refine AH ?_|refine AI ?_|refine AJ ?_|refine AK ?_|refine AL ?_|refine AM ?_|refine AN ?_|refine AO ?_|refine AP ?_|refine AQ rfl ?_|refine AR ?_|refine AS ?_|refine AT rfl ?_|refine AU rfl ?_
    refine wr_call_e rfl ((r20do_ok hE T.toQcT hra how).mono fun x h5 ⟨k5, e5⟩ => ?_)
    subst e5
    have hfi := foldF_i64 (how := how) hra.row
    generalize foldF how vals = r at *
    obtain ⟨⟨n1, n2'⟩, er⟩ := r
    have K5 := (K.and K4).and k5
    have bS : Bx (h5.push (.rw [.int .i64 0, .int .i64 0])) h5.n [.int .i64 0, .int .i64 0] := bx_push
    have kS : Keep NoB h5 (h5.push (.rw [.int .i64 0, .int .i64 0])) := Keep.push _ _ _
    repeat first|(refine BG ?_;first|(refine BH ?_;first|(refine BI ?_;refine BM ?_)|(refine BJ ?_;first|refine BN ?_|refine BO ?_)|refine BP ?_)|(refine BK ?_;first|refine BS rfl rfl ?_|refine BT rfl rfl ?_|refine BU rfl ?_)|(refine BL ?_;first|refine BW (ef_bxn bS rfl rfl rfl rfl (Nat.le_refl _)) ?_|refine BQ ?_)|(refine BR ?_;try simp only [setS]))|refine AA ?_|refine AC ?_|refine AD ?_|refine AE ?_|refine AF rfl rfl ?_|refine AG rfl rfl ?_|refine AH ?_|refine AI ?_|refine AJ ?_|refine AK ?_|refine AL ?_|refine AM ?_|refine AN ?_|refine AO ?_|refine AP ?_|refine AQ rfl ?_|refine AR ?_|refine AS ?_|refine AT rfl ?_|refine AU rfl ?_
    refine wb_hq (h' := (h5.push (.rw [.int .i64 0, .int .i64 0])).put h5.n (.rw [.int .i64 n1, .int .i64 n2'])) rfl ?_
    have kS2 : Keep NoB h5 ((h5.push (.rw [.int .i64 0, .int .i64 0])).put h5.n (.rw [.int .i64 n1, .int .i64 n2'])) := kS.own (Keep.put (h5.push (.rw [.int .i64 0, .int .i64 0])) h5.n (.rw [.int .i64 n1, .int .i64 n2']) (S := OneB h5.n) rfl) (fun k q => Nat.le_of_eq q.symm)
    have bS : Bx ((h5.push (.rw [.int .i64 0, .int .i64 0])).put h5.n (.rw [.int .i64 n1, .int .i64 n2'])) h5.n [.int .i64 n1, .int .i64 n2'] := bS.put
    have K6 := K5.and kS2
    have ho6 := ((ho.up K4).up k5).up kS2
    clear kS
    generalize (h5.push (.rw [.int .i64 0, .int .i64 0])).put h5.n (.rw [.int .i64 n1, .int .i64 n2']) = h6 at *
    by_cases her : er = 0
    case' neg =>
      rw [show (er != 0) = true by simp [her]]
      rw [if_pos (by simpa using her)] at hgo
      rw [hgo]
      repeat first|(refine BG ?_;first|(refine BH ?_;first|(refine BI ?_;refine BM ?_)|(refine BJ ?_;first|refine BN ?_|refine BO ?_)|refine BP ?_)|(refine BK ?_;first|refine BS rfl rfl ?_|refine BT rfl rfl ?_|refine BU rfl ?_)|(refine BL ?_;first|refine BQ ?_)|(refine BR ?_;try simp only [setS]))|refine AA ?_|refine AC ?_|refine AD ?_|refine AE ?_|refine AF rfl rfl ?_|refine AG rfl rfl ?_|refine AH ?_|refine AI ?_|refine AJ ?_|refine AK ?_|refine AL ?_|refine AM ?_|refine AN ?_|refine AO ?_|refine AP ?_|refine AQ rfl ?_|refine AR ?_|refine AS ?_|refine AT rfl ?_|refine AU rfl ?_
      exact ⟨K3.and K6, .snil, rfl, nilS⟩
    subst her
    rw [if_neg (by simp)] at hgo
    repeat first|(refine BG ?_;first|(refine BH ?_;first|(refine BI ?_;refine BM ?_)|(refine BJ ?_;first|refine BN ?_|refine BO ?_)|refine BV (v_bxn bS rfl (Nat.le_refl _)) ?_|refine BP ?_)|(refine BK ?_;first|refine BS rfl rfl ?_|refine BT rfl rfl ?_|refine BU rfl ?_)|(refine BL ?_;first|refine BW (ef_bss (s := ⟨t0, (n1, n2')⟩) rfl) ?_|refine BQ ?_)|(refine BR ?_;try simp only [setS]))|refine AA ?_|refine AC ?_|refine AD ?_|refine AE ?_|refine AF rfl rfl ?_|refine AG rfl rfl ?_|refine AH ?_|refine AI ?_|refine AJ ?_|refine AK ?_|refine AL ?_|refine AM ?_|refine AN ?_|refine AO ?_|refine AP ?_|refine AQ rfl ?_|refine AR ?_|refine AS ?_|refine AT rfl ?_|refine AU rfl ?_
    have kq : Keep NoB h6 (h6.push (.rw (sc ⟨t0, (n1, n2')⟩))) := Keep.push _ _ _
    have n6 := K6.n
    refine wr_app_e rfl rfl (ho6.up kq) (by decide) (rs_push (n := 1) (z := 3) rfl) (by omega) (by omega) fun v' h' a1 a2 a3 => ?_
    have K7 := (K6.and kq).own a2 hlo
    have lo7 : ∀ k, blk v' k → h3.n ≤ k := fun k q => by
      rcases a3 k q with q | q
      · exact hlo k q
      · simp only [push_n] at q; omega
    repeat first|(refine BG ?_;first|(refine BH ?_;first|(refine BI ?_;refine BM ?_)|(refine BJ ?_;first|refine BN ?_|refine BO ?_)|refine BP ?_)|(refine BK ?_;first|refine BS rfl rfl ?_|refine BT rfl rfl ?_|refine BU rfl ?_)|(refine BL ?_;first|refine BQ ?_)|(refine BR ?_;try simp only [setS]))|refine AA ?_|refine AC ?_|refine AD ?_|refine AE ?_|refine AF rfl rfl ?_|refine AG rfl rfl ?_|refine AH ?_|refine AI ?_|refine AJ ?_|refine AK ?_|refine AL ?_|refine AM ?_|refine AN ?_|refine AO ?_|refine AP ?_|refine AQ rfl ?_|refine AR ?_|refine AS ?_|refine AT rfl ?_|refine AU rfl ?_
    rw [show ((i : Int) + 1) = ((i + 1 : Nat) : Int) by omega]
    refine round_norm (n - 1) (by omega) ⟨i + 1, out ++ [⟨t0, (n1, n2')⟩], v', _, _, _, _, _, _, _, _, _, _, _, _, _, by omega, by omega, K7, by rw [List.length_append]; simp; omega, fun s hs => ?_, ?_, lo7, hgo, rfl⟩
    · rcases List.mem_append.1 hs with hs | hs
      · exact hoi s hs
      · simp at hs; subst hs; exact ⟨ht64 t0 (List.mem_of_getElem? ht), hfi⟩
    · rw [List.length_append, List.flatMap_append]
      simpa using a1
  · obtain rfl : i = T0.length := by omega
    rw [List.drop_length] at hgo
    have hgo : aggG how ls [] T0 = (out, 0) := hgo
    rw [hgo]
    repeat first|(refine BG ?_;first|(refine BH ?_;first|(refine BI ?_;refine BM ?_)|(refine BJ ?_;first|refine BN ?_|refine BO ?_)|refine BP ?_)|(refine BK ?_;first|refine BS rfl rfl ?_|refine BT rfl rfl ?_|refine BU rfl ?_)|(refine BL ?_;first|refine BQ ?_)|(refine BR ?_;try simp only [setS]))|refine AA ?_|refine AC ?_|refine AD ?_|refine AE ?_|refine AF rfl rfl ?_|refine AG rfl rfl ?_|refine AH ?_|refine AI ?_|refine AJ ?_|refine AK ?_|refine AL ?_|refine AM ?_|refine AN ?_|refine AO ?_|refine AP ?_|refine AQ rfl ?_|refine AR ?_|refine AS ?_|refine AT rfl ?_|refine AU rfl ?_
    exact ⟨K3.and K, vo, rfl, ⟨ho.rs, by omega, hoi⟩⟩
end
end Am
end Go.Proofs.Ytkgplkddpigagaa
