/- Package agg: whether series may be; slices.Compact; Times; Do. -/
import Derived.Test.YtkgplkddpigagaaQaH
set_option linter.unusedVariables false
set_option linter.unusedSimpArgs false
namespace Go.Proofs.Ytkgplkddpigagaa
namespace Am
open Go.RowKit
set_option maxRecDepth 100000
def b_compactI64 : BF := ⟨61, [0, 2, 3, 4, 5, 8, 13, 25, 32, 44], (.seq (.reg [.mk none (.slot 1) (.mov (.mv (.const .snil)))]) (.seq (.seq (.reg [.mk none (.env 6) (.mov (.mv (.slot 0))), .mk none (.env 7) (.mov (.lenv (.env 6))), .mk none (.slot 5) (.mov (.bin .lss .no (.env 7) (.const (.int .i64 2))))]) (.cond (.slot 5) (.seq (.reg [.mk none (.env 9) (.mov (.mv (.slot 0))), .mk none (.slot 1) (.mov (.mv (.env 9)))]) .ret) .skip)) (.seq (.seq (.reg [.mk none (.slot 2) (.mov (.mv (.const (.int .i64 1))))]) (.block 0 (.loop (.seq (.seq (.reg [.mk none (.env 10) (.mov (.mv (.slot 2))), .mk none (.env 11) (.mov (.mv (.slot 0))), .mk none (.env 12) (.mov (.lenv (.env 11))), .mk none (.slot 6) (.mov (.bin .lss .no (.env 10) (.env 12)))]) (.cond (.slot 6) .skip (.exit 0))) (.seq (.block 1 (.seq (.dreg [(.mk none (.env 16) (.mov (.mv (.slot 0))), []), (.mk none (.env 17) (.mov (.mv (.slot 2))), []), (.mk none (.env 18) (.mov (.iaddr 1 (.env 16) (.env 17))), []), (.mk none (.env 19) (.mov (.ld1 (.env 18))), []), (.mk none (.env 20) (.mov (.mv (.slot 0))), []), (.mk none (.env 21) (.mov (.mv (.slot 2))), []), (.mk none (.env 22) (.mov (.bin .sub .no (.env 21) (.const (.int .i64 1)))), []), (.mk none (.env 23) (.mov (.iaddr 1 (.env 20) (.env 22))), []), (.mk none (.env 24) (.mov (.ld1 (.env 23))), []), (.mk none (.slot 7) (.mov (.bin .eql .no (.env 19) (.env 24))), [])]) (.cond (.slot 7) (.seq (.reg [.mk none (.env 26) (.mov (.mv (.slot 0))), .mk none (.env 27) (.mov (.mv (.slot 2))), .mk none (.env 28) (.mov (.sl 1 (.env 26) (some (.env 27)) none none)), .mk none (.slot 3) (.mov (.mv (.env 28)))]) (.seq (.seq (.reg [.mk none (.slot 4) (.mov (.mv (.const (.int .i64 1))))]) (.block 2 (.loop (.seq (.seq (.reg [.mk none (.env 29) (.mov (.mv (.slot 4))), .mk none (.env 30) (.mov (.mv (.slot 3))), .mk none (.env 31) (.mov (.lenv (.env 30))), .mk none (.slot 8) (.mov (.bin .lss .no (.env 29) (.env 31)))]) (.cond (.slot 8) .skip (.exit 2))) (.seq (.block 3 (.seq (.dreg [(.mk none (.env 35) (.mov (.mv (.slot 3))), []), (.mk none (.env 36) (.mov (.mv (.slot 4))), []), (.mk none (.env 37) (.mov (.iaddr 1 (.env 35) (.env 36))), []), (.mk none (.env 38) (.mov (.ld1 (.env 37))), []), (.mk none (.env 39) (.mov (.mv (.slot 3))), []), (.mk none (.env 40) (.mov (.mv (.slot 4))), []), (.mk none (.env 41) (.mov (.bin .sub .no (.env 40) (.const (.int .i64 1)))), []), (.mk none (.env 42) (.mov (.iaddr 1 (.env 39) (.env 41))), []), (.mk none (.env 43) (.mov (.ld1 (.env 42))), []), (.mk none (.slot 9) (.mov (.bin .neq .no (.env 38) (.env 43))), [])]) (.cond (.slot 9) (.seq (.reg [.mk none (.env 45) (.mov (.mv (.slot 0))), .mk none (.env 46) (.mov (.mv (.slot 2))), .mk none (.env 47) (.mov (.mv (.slot 3))), .mk none (.env 48) (.mov (.mv (.slot 4))), .mk none (.env 49) (.mov (.iaddr 1 (.env 47) (.env 48))), .mk none (.env 50) (.mov (.ld1 (.env 49))), .mk none (.env 51) (.mov (.iaddr 1 (.env 45) (.env 46))), .mk none .none (.eff (.store 1 (.env 51) (.env 50)))]) (.reg [.mk none (.env 52) (.mov (.mv (.slot 2))), .mk none (.env 53) (.mov (.bin .add .no (.env 52) (.const (.int .i64 1)))), .mk none (.slot 2) (.mov (.mv (.env 53)))])) .skip))) (.reg [.mk none (.env 33) (.mov (.mv (.slot 4))), .mk none (.env 34) (.mov (.bin .add .no (.env 33) (.const (.int .i64 1)))), .mk none (.slot 4) (.mov (.mv (.env 34)))])))))) (.seq (.reg [.mk none (.env 54) (.mov (.mv (.slot 0))), .mk none (.env 55) (.mov (.mv (.slot 2))), .mk none (.env 56) (.mov (.sl 1 (.env 54) (some (.env 55)) none none)), .mk none .none (.eff (.clear 1 [(.int .i64 0)] (.env 56)))]) (.seq (.reg [.mk none (.env 57) (.mov (.mv (.slot 0))), .mk none (.env 58) (.mov (.mv (.slot 2))), .mk none (.env 59) (.mov (.sl 1 (.env 57) none (some (.env 58)) none)), .mk none (.slot 1) (.mov (.mv (.env 59)))]) .ret)))) .skip))) (.reg [.mk none (.env 14) (.mov (.mv (.slot 2))), .mk none (.env 15) (.mov (.bin .add .no (.env 14) (.const (.int .i64 1)))), .mk none (.slot 2) (.mov (.mv (.env 15)))])))))) (.seq (.reg [.mk none (.env 60) (.mov (.mv (.slot 0))), .mk none (.slot 1) (.mov (.mv (.env 60)))]) .ret)))), [.slot (.slot 1)]⟩
def b_aggTimes : BF := ⟨31, [0, 2, 3, 5, 7, 8, 9, 10, 11, 14, 15, 16, 17], (.seq (.reg [.mk none (.slot 1) (.mov (.mv (.const .snil)))]) (.seq (.reg [.mk none (.slot 2) (.mov (.mv (.const .snil)))]) (.seq (.seq (.reg [.mk none (.slot 5) (.mov (.mv (.slot 0))), .mk none (.slot 6) (.mov (.lenv (.slot 5))), .mk none (.slot 7) (.mov (.mv (.const (.int .i64 0))))]) (.block 0 (.loop (.seq (.reg [.mk none (.slot 8) (.mov (.bin .lss .no (.slot 7) (.slot 6)))]) (.seq (.cond (.slot 8) .skip (.exit 0)) (.seq (.block 1 (.seq (.reg [.mk none (.env 12) (.mov (.iaddr 1 (.slot 5) (.slot 7))), .mk none (.env 13) (.mov (.ld1 (.env 12))), .mk none (.slot 3) (.mov (.mv (.env 13)))]) (.seq (.reg [.mk none (.slot 9) (.mov (.mv (.slot 3))), .mk none (.slot 10) (.mov (.lenv (.slot 9))), .mk none (.slot 11) (.mov (.mv (.const (.int .i64 0))))]) (.block 2 (.loop (.seq (.reg [.mk none (.slot 12) (.mov (.bin .lss .no (.slot 11) (.slot 10)))]) (.seq (.cond (.slot 12) .skip (.exit 2)) (.seq (.block 3 (.seq (.reg [.mk none (.env 18) (.mov (.iaddr 3 (.slot 9) (.slot 11))), .mk none (.env 19) (.mov (.ldn 3 (.env 18))), .mk none (.slot 4) (.eff (.alloc [(.int .i64 0), (.int .i64 0), (.int .i64 0)])), .mk none .none (.eff (.store 3 (.slot 4) (.env 19)))]) (.reg [.mk none (.env 20) (.mov (.mv (.slot 2))), .mk none (.env 21) (.mov (.faddr 0 (.slot 4))), .mk none (.env 22) (.mov (.ld1 (.env 21))), .mk none (.env 23) (.eff (.bslice 1 1 [(.int .i64 0)] [(0, 1, (.env 22))])), .mk none (.env 24) (.eff (.append 1 8 (.env 20) (.env 23))), .mk none (.slot 2) (.mov (.mv (.env 24)))]))) (.reg [.mk none (.env 25) (.mov (.bin .add .no (.slot 11) (.const (.int .i64 1)))), .mk none (.slot 11) (.mov (.mv (.env 25)))]))))))))) (.reg [.mk none (.env 26) (.mov (.bin .add .no (.slot 7) (.const (.int .i64 1)))), .mk none (.slot 7) (.mov (.mv (.env 26)))]))))))) (.seq (.reg [.mk none (.env 27) (.mov (.mv (.slot 2))), .mk none (.env 28) (.call 30 [(.env 27)])]) (.seq (.reg [.mk none (.env 29) (.mov (.mv (.slot 2))), .mk none (.env 30) (.call 31 [(.env 29)]), .mk none (.slot 1) (.mov (.mv (.env 30)))]) .ret))))), [.slot (.slot 1)]⟩
def b_aggDo : BF := ⟨52, [0, 1, 4, 5, 6, 8, 9, 10, 11, 18, 20, 21, 22, 23, 33, 42], (.seq (.reg [.mk none (.slot 2) (.mov (.mv (.const .snil))), .mk none (.slot 3) (.mov (.mv (.const (.int .i64 0))))]) (.seq (.seq (.reg [.mk none (.env 12) (.mov (.mv (.slot 0))), .mk none (.env 13) (.call 22 [(.env 12)]), .mk none (.env 14) (.mov (.notb (.env 13))), .mk none (.env 15) (.mov (.mv (.env 14))), .mk (some ((.env 15), false)) (.env 16) (.mov (.mv (.slot 1))), .mk (some ((.env 15), false)) (.env 17) (.call 23 [(.env 16), (.const (.func 24 []))]), .mk none (.slot 9) (.mov (.pick (.env 15) (.const (.bool true)) (.env 17)))]) (.cond (.slot 9) (.seq (.reg [.mk none (.slot 2) (.mov (.mv (.const .snil))), .mk none (.slot 3) (.mov (.mv (.const (.int .i64 1))))]) .ret) .skip)) (.seq (.reg [.mk none (.slot 4) (.mov (.mv (.const .snil)))]) (.seq (.seq (.reg [.mk none (.env 19) (.mov (.mv (.slot 1))), .mk none (.slot 10) (.call 15 [(.env 19)]), .mk none (.slot 11) (.mov (.lenv (.slot 10))), .mk none (.slot 12) (.mov (.mv (.const (.int .i64 0))))]) (.block 0 (.loop (.seq (.reg [.mk none (.slot 13) (.mov (.bin .lss .no (.slot 12) (.slot 11)))]) (.seq (.cond (.slot 13) .skip (.exit 0)) (.seq (.block 1 (.seq (.reg [.mk none (.env 24) (.mov (.iaddr 1 (.slot 10) (.slot 12))), .mk none (.env 25) (.mov (.ld1 (.env 24))), .mk none (.slot 5) (.mov (.mv (.env 25)))]) (.seq (.reg [.mk none (.env 27) (.mov (.mv (.slot 5))), .mk none (.env 28) (.mov (.mv (.slot 1))), .mk none (.env 29) (.call 26 [(.env 27), (.env 28)]), .mk none (.env 26) (.mov (.mv (.env 29))), .mk none (.env 30) (.mov (.ext 0 (.env 26))), .mk none (.env 31) (.mov (.ext 1 (.env 26))), .mk none (.slot 6) (.mov (.mv (.env 30))), .mk none (.slot 7) (.mov (.mv (.env 31)))]) (.seq (.seq (.reg [.mk none (.env 32) (.mov (.mv (.slot 7))), .mk none (.slot 14) (.mov (.bin .neq .no (.env 32) (.const (.int .i64 0))))]) (.cond (.slot 14) (.seq (.reg [.mk none (.env 34) (.mov (.mv (.slot 7))), .mk none (.slot 2) (.mov (.mv (.const .snil))), .mk none (.slot 3) (.mov (.mv (.env 34)))]) .ret) .skip)) (.seq (.reg [.mk none (.env 36) (.mov (.mv (.slot 0))), .mk none (.env 37) (.mov (.mv (.slot 6))), .mk none (.env 38) (.call 27 [(.env 36), (.env 37)]), .mk none (.env 35) (.mov (.mv (.env 38))), .mk none (.env 39) (.mov (.ext 0 (.env 35))), .mk none (.env 40) (.mov (.ext 1 (.env 35))), .mk none (.slot 8) (.eff (.alloc [(.int .i64 0), (.int .i64 0)])), .mk none .none (.eff (.store 2 (.slot 8) (.env 39))), .mk none (.slot 7) (.mov (.mv (.env 40)))]) (.seq (.seq (.reg [.mk none (.env 41) (.mov (.mv (.slot 7))), .mk none (.slot 15) (.mov (.bin .neq .no (.env 41) (.const (.int .i64 0))))]) (.cond (.slot 15) (.seq (.reg [.mk none (.env 43) (.mov (.mv (.slot 7))), .mk none (.slot 2) (.mov (.mv (.const .snil))), .mk none (.slot 3) (.mov (.mv (.env 43)))]) .ret) .skip)) (.reg [.mk none (.env 44) (.mov (.mv (.slot 4))), .mk none (.env 45) (.mov (.mv (.slot 5))), .mk none (.env 46) (.mov (.ldn 2 (.slot 8))), .mk none (.env 47) (.mov (.bld [(.int .i64 0), (.int .i64 0), (.int .i64 0)] [(0, 1, (.env 45)), (1, 2, (.env 46))])), .mk none (.env 48) (.eff (.bslice 3 1 [(.int .i64 0), (.int .i64 0), (.int .i64 0)] [(0, 3, (.env 47))])), .mk none (.env 49) (.eff (.append 3 24 (.env 44) (.env 48))), .mk none (.slot 4) (.mov (.mv (.env 49)))]))))))) (.reg [.mk none (.env 50) (.mov (.bin .add .no (.slot 12) (.const (.int .i64 1)))), .mk none (.slot 12) (.mov (.mv (.env 50)))]))))))) (.seq (.reg [.mk none (.env 51) (.mov (.mv (.slot 4))), .mk none (.slot 2) (.mov (.mv (.env 51))), .mk none (.slot 3) (.mov (.mv (.const (.int .i64 0))))]) .ret))))), [.slot (.slot 2), .slot (.slot 3)]⟩
def dd : List Int → List Int
  | [] => []
  | [a] => [a]
  | a :: b :: l => if a = b then dd (b :: l) else a :: dd (b :: l)
theorem dd_snoc : ∀ {l : List Int} {a b : Int}, dd (l ++ [a] ++ [b]) = if a = b then dd (l ++ [a]) else dd (l ++ [a]) ++ [b]
  | [], a, b => by
    simp only [List.nil_append, List.cons_append, dd]
    by_cases h : a = b
    · rw [if_pos h, if_pos h, h]
    · rw [if_neg h, if_neg h]
  | [c], a, b => by
    have h0 := @dd_snoc [] a b
    simp only [List.nil_append, List.cons_append] at h0 ⊢
    show (if c = a then dd (a :: [b]) else c :: dd (a :: [b])) = if a = b then (if c = a then dd [a] else c :: dd [a]) else (if c = a then dd [a] else c :: dd [a]) ++ [b]
    rw [h0]
    by_cases h1 : a = b
    · rw [if_pos h1, if_pos h1]
    · rw [if_neg h1, if_neg h1]
      by_cases h2 : c = a
      · rw [if_pos h2, if_pos h2]
      · rw [if_neg h2, if_neg h2]; rfl
  | c :: d :: l, a, b => by
    have h0 := @dd_snoc (d :: l) a b
    simp only [List.cons_append] at h0 ⊢
    show (if c = d then dd (d :: (l ++ [a] ++ [b])) else c :: dd (d :: (l ++ [a] ++ [b]))) = if a = b then (if c = d then dd (d :: (l ++ [a])) else c :: dd (d :: (l ++ [a]))) else (if c = d then dd (d :: (l ++ [a])) else c :: dd (d :: (l ++ [a]))) ++ [b]
    rw [h0]
    by_cases h1 : a = b
    · rw [if_pos h1, if_pos h1]
    · rw [if_neg h1, if_neg h1]
      by_cases h2 : c = d
      · rw [if_pos h2, if_pos h2]
      · rw [if_neg h2, if_neg h2]; rfl
theorem dd_len : ∀ l : List Int, (dd l).length ≤ l.length
  | [] => Nat.le_refl _
  | [a] => Nat.le_refl _
  | a :: b :: l => by
    have := dd_len (b :: l)
    show (if a = b then dd (b :: l) else a :: dd (b :: l)).length ≤ _
    split
    · rw [List.length_cons]; omega
    · rw [List.length_cons, List.length_cons]; omega
theorem dd_take {zs : List Int} {p : Nat} {x y : Int} (hp : 0 < p) (hx : zs[p - 1]? = some x) (hy : zs[p]? = some y) : dd (zs.take (p + 1)) = if x = y then dd (zs.take p) else dd (zs.take p) ++ [y] := by
  obtain ⟨m, rfl⟩ : ∃ m, p = m + 1 := ⟨p - 1, by omega⟩
  rw [Nat.add_sub_cancel] at hx
  have e1 : zs.take (m + 1) = zs.take m ++ [x] := by rw [List.take_add_one, hx]; rfl
  have e2 : zs.take (m + 1 + 1) = zs.take m ++ [x] ++ [y] := by rw [List.take_add_one, hy, e1]; rfl
  rw [e2, e1]
  exact dd_snoc
def iv (n : Int) : AV := .int .i64 n
section
variable {X : Type} {E : Nat → Option (Ent X)}
theorem ado1_ok (hE : ∀ f e, E f = some e → e.plain) (T : QaL E) {h : Hp X} {c : AV} {l : List SM} (a : Ser h c l) : WF (lim E) 24 [c] h fun x h' => Keep NoB h h' ∧ ∃ b, x = .bool b ∧ (b = true ↔ ¬ RightS l) := by
  refine wf_bc hE T.ado1 rfl ?_
  simp only [b_aggDo1, List.map, getS]
  repeat first|(refine BG ?_;first|(refine BH ?_;first|(refine BI ?_;refine BM ?_)|(refine BJ ?_;first|refine BN ?_|refine BO ?_)|refine BP ?_)|(refine BK ?_;first|refine BS rfl rfl ?_|refine BT rfl rfl ?_|refine BU rfl ?_)|(refine BL ?_;first|refine BQ ?_)|(refine BR ?_;try simp only [setS]))|refine AA ?_|refine AC ?_|refine AD ?_|refine AE ?_|refine AF rfl rfl ?_|refine AG rfl rfl ?_|refine AH ?_|refine AI ?_|refine AJ ?_|refine AK ?_|refine AL ?_|refine AM ?_|refine AN ?_|refine AO ?_|refine AP ?_|refine AQ rfl ?_|refine AR ?_|refine AS ?_|refine AT rfl ?_|refine AU rfl ?_
  refine wr_call_e rfl ((dright_ok hE T.toQaS T.dright a).mono fun x h4 ⟨k4, b, e4, hb⟩ => ?_)
  subst e4
  repeat first|(refine BG ?_;first|(refine BH ?_;first|(refine BI ?_;refine BM ?_)|(refine BJ ?_;first|refine BN ?_|refine BO ?_)|refine BV (v_notb rfl) ?_|refine BP ?_)|(refine BK ?_;first|refine BS rfl rfl ?_|refine BT rfl rfl ?_|refine BU rfl ?_)|(refine BL ?_;first|refine BQ ?_)|(refine BR ?_;try simp only [setS]))|refine AA ?_|refine AC ?_|refine AD ?_|refine AE ?_|refine AF rfl rfl ?_|refine AG rfl rfl ?_|refine AH ?_|refine AI ?_|refine AJ ?_|refine AK ?_|refine AL ?_|refine AM ?_|refine AN ?_|refine AO ?_|refine AP ?_|refine AQ rfl ?_|refine AR ?_|refine AS ?_|refine AT rfl ?_|refine AU rfl ?_
  refine ⟨k4, !b, rfl, ?_⟩
  cases b with
  | true => exact ⟨fun q => (by cases q), fun q => absurd (hb.1 rfl) q⟩
  | false => exact ⟨fun _ q => (by have := hb.2 q; cases this), fun _ => rfl⟩
theorem idxS_ok (hE : ∀ f e, E f = some e → e.plain) (T : QaL E) {h : Hp X} {v : AV} {ls : List (List SM)} (a : Sers h v ls) : WF (lim E) 38 [v, .func 24 []] h fun x h' => Keep NoB h h' ∧ ∃ i : Int, x = .int .i64 i ∧ (0 ≤ i ↔ ∃ l ∈ ls, ¬ RightS l) := by
  refine wf_bc hE T.idxS rfl ?_
  simp only [b_idxSeries, List.map, getS]
  have hlen := a.len
  obtain ⟨cells, hrs, hat⟩ := a.out
  repeat first|(refine BG ?_;first|(refine BH ?_;first|(refine BI ?_;refine BM ?_)|(refine BJ ?_;first|refine BN ?_|refine BO ?_)|refine BV (hrs.lenv (by rfl)) ?_|refine BP ?_)|(refine BK ?_;first|refine BS rfl rfl ?_|refine BT rfl rfl ?_|refine BU rfl ?_)|(refine BL ?_;first|refine BQ ?_)|(refine BR ?_;try simp only [setS]))|refine AA ?_|refine AC ?_|refine AD ?_|refine AE ?_|refine AF rfl rfl ?_|refine AG rfl rfl ?_|refine AH ?_|refine AI ?_|refine AJ ?_|refine AK ?_|refine AL ?_|refine AM ?_|refine AN ?_|refine AO ?_|refine AP ?_|refine AQ rfl ?_|refine AR ?_|refine AS ?_|refine AT rfl ?_|refine AU rfl ?_
  refine wb_loop (fun n t hh => ∃ (i : Nat) (s3 s6 s7 : AV), i ≤ ls.length ∧ n = ls.length - i ∧ Keep NoB h hh ∧ (∀ (j : Nat) l, j < i → ls[j]? = some l → RightS l) ∧ t = [v, .func 24 [], .int .i64 0, s3, .int .i64 ls.length, .int .i64 i, s6, s7]) ?_ ls.length _ _ ⟨0, _, _, _, by omega, by omega, Keep.refl _ _, by omega, rfl⟩
  rintro n t hh ⟨i, s3, s6, s7, hi, hm, K, hok, rfl⟩
  by_cases hlt : i < ls.length
  · obtain ⟨l, hl⟩ : ∃ l, ls[i]? = some l := ⟨_, List.getElem?_eq_getElem hlt⟩
    obtain ⟨c, hc, hser⟩ := hat i l hl
    obtain ⟨g, o, c0, c1⟩ := (hrs.up K).at2 hlt
    have lc : ∀ {e : En} {t : List AV} {x : Od}, x.ev e t = .ptr g o → (Mv.ld1 x).ev e t hh = some c := fun hx => by rw [c1 (Keep.refl NoB hh) (fun _ _ q => q) hx]; exact hc
    repeat first|(refine BG ?_;first|(refine BH ?_;first|(refine BI ?_;refine BM ?_)|(refine BJ ?_;first|refine BN ?_|refine BO ?_)|refine BV (c0 rfl rfl) ?_|refine BV (lc rfl) ?_|refine BP ?_)|(refine BK ?_;first|refine BS rfl rfl ?_|refine BT rfl rfl ?_|refine BU rfl ?_)|(refine BL ?_;first|refine BQ ?_)|(refine BR ?_;try simp only [setS]))|refine AA ?_|refine AC ?_|refine AD ?_|refine AE ?_|refine AF rfl rfl ?_|refine AG rfl rfl ?_|refine AH ?_|refine AI ?_|refine AJ ?_|refine AK ?_|refine AL ?_|refine AM ?_|refine AN ?_|refine AO ?_|refine AP ?_|refine AQ rfl ?_|refine AR ?_|refine AS ?_|refine AT rfl ?_|refine AU rfl ?_
    refine wr_calv_s rfl rfl ((ado1_ok hE T (hser.up K)).mono fun x h4 ⟨k4, b, e4, hb⟩ => ?_)
    subst e4
    simp only [setS]
    have K4 := K.and k4
    cases b with
    | false =>
      have hr : RightS l := Classical.byContradiction fun q => by have := hb.2 q; cases this
      repeat first|(refine BG ?_;first|(refine BH ?_;first|(refine BI ?_;refine BM ?_)|(refine BJ ?_;first|refine BN ?_|refine BO ?_)|refine BP ?_)|(refine BK ?_;first|refine BS rfl rfl ?_|refine BT rfl rfl ?_|refine BU rfl ?_)|(refine BL ?_;first|refine BQ ?_)|(refine BR ?_;try simp only [setS]))|refine AA ?_|refine AC ?_|refine AD ?_|refine AE ?_|refine AF rfl rfl ?_|refine AG rfl rfl ?_|refine AH ?_|refine AI ?_|refine AJ ?_|refine AK ?_|refine AL ?_|refine AM ?_|refine AN ?_|refine AO ?_|refine AP ?_|refine AQ rfl ?_|refine AR ?_|refine AS ?_|refine AT rfl ?_|refine AU rfl ?_
      rw [show ((i : Int) + 1) = ((i + 1 : Nat) : Int) by omega]
      refine round_norm (n - 1) (by omega) ⟨i + 1, _, _, _, by omega, by omega, K4, fun j u h5 h6 => ?_, rfl⟩
      by_cases hj : j = i
      · subst hj; rw [hl] at h6; cases h6; exact hr
      · exact hok j u (by omega) h6
    | true =>
      repeat first|(refine BG ?_;first|(refine BH ?_;first|(refine BI ?_;refine BM ?_)|(refine BJ ?_;first|refine BN ?_|refine BO ?_)|refine BP ?_)|(refine BK ?_;first|refine BS rfl rfl ?_|refine BT rfl rfl ?_|refine BU rfl ?_)|(refine BL ?_;first|refine BQ ?_)|(refine BR ?_;try simp only [setS]))|refine AA ?_|refine AC ?_|refine AD ?_|refine AE ?_|refine AF rfl rfl ?_|refine AG rfl rfl ?_|refine AH ?_|refine AI ?_|refine AJ ?_|refine AK ?_|refine AL ?_|refine AM ?_|refine AN ?_|refine AO ?_|refine AP ?_|refine AQ rfl ?_|refine AR ?_|refine AS ?_|refine AT rfl ?_|refine AU rfl ?_
      exact ⟨K4, (i : Int), rfl, fun _ => ⟨l, List.mem_of_getElem? hl, hb.1 rfl⟩, fun _ => by omega⟩
  · repeat first|(refine BG ?_;first|(refine BH ?_;first|(refine BI ?_;refine BM ?_)|(refine BJ ?_;first|refine BN ?_|refine BO ?_)|refine BP ?_)|(refine BK ?_;first|refine BS rfl rfl ?_|refine BT rfl rfl ?_|refine BU rfl ?_)|(refine BL ?_;first|refine BQ ?_)|(refine BR ?_;try simp only [setS]))|refine AA ?_|refine AC ?_|refine AD ?_|refine AE ?_|refine AF rfl rfl ?_|refine AG rfl rfl ?_|refine AH ?_|refine AI ?_|refine AJ ?_|refine AK ?_|refine AL ?_|refine AM ?_|refine AN ?_|refine AO ?_|refine AP ?_|refine AQ rfl ?_|refine AR ?_|refine AS ?_|refine AT rfl ?_|refine AU rfl ?_
    refine ⟨K, -1, rfl, fun q => absurd q (by decide), ?_⟩
    rintro ⟨l, hl, hr⟩
    obtain ⟨j, hj⟩ := List.mem_iff_getElem?.1 hl
    exact absurd (hok j l (by have := (List.getElem?_eq_some_iff.1 hj).1; omega) hj) hr
theorem hasS_ok (hE : ∀ f e, E f = some e → e.plain) (T : QaL E) {h : Hp X} {v : AV} {ls : List (List SM)} (a : Sers h v ls) : WF (lim E) 23 [v, .func 24 []] h fun x h' => Keep NoB h h' ∧ ∃ b, x = .bool b ∧ (b = true ↔ ∃ l ∈ ls, ¬ RightS l) := by
  refine wf_bc hE T.hasS rfl ?_
  simp only [b_hasSeries, List.map, getS]
  repeat first|(refine BG ?_;first|(refine BH ?_;first|(refine BI ?_;refine BM ?_)|(refine BJ ?_;first|refine BN ?_|refine BO ?_)|refine BP ?_)|(refine BK ?_;first|refine BS rfl rfl ?_|refine BT rfl rfl ?_|refine BU rfl ?_)|(refine BL ?_;first|refine BQ ?_)|(refine BR ?_;try simp only [setS]))|refine AA ?_|refine AC ?_|refine AD ?_|refine AE ?_|refine AF rfl rfl ?_|refine AG rfl rfl ?_|refine AH ?_|refine AI ?_|refine AJ ?_|refine AK ?_|refine AL ?_|refine AM ?_|refine AN ?_|refine AO ?_|refine AP ?_|refine AQ rfl ?_|refine AR ?_|refine AS ?_|refine AT rfl ?_|refine AU rfl ?_
  refine wr_call_e rfl ((idxS_ok hE T a).mono fun x h4 ⟨k4, i, e4, hi⟩ => ?_)
  subst e4
  by_cases h0 : 0 ≤ i
  · repeat first|(refine BG ?_;first|(refine BH ?_;first|(refine BI ?_;refine BM ?_)|(refine BJ ?_;first|refine BN ?_|refine BO ?_)|refine BP ?_)|(refine BK ?_;first|refine BS rfl rfl ?_|refine BT rfl rfl ?_|refine BU rfl ?_)|(refine BL ?_;first|refine BQ ?_)|(refine BR ?_;try simp only [setS]))|refine AA ?_|refine AC ?_|refine AD ?_|refine AE ?_|refine AF rfl rfl ?_|refine AG rfl rfl ?_|refine AH ?_|refine AI ?_|refine AJ ?_|refine AK ?_|refine AL ?_|refine AM ?_|refine AN ?_|refine AO ?_|refine AP ?_|refine AQ rfl ?_|refine AR ?_|refine AS ?_|refine AT rfl ?_|refine AU rfl ?_
    exact ⟨k4, true, rfl, fun _ => hi.1 h0, fun _ => rfl⟩
  · repeat first|(refine BG ?_;first|(refine BH ?_;first|(refine BI ?_;refine BM ?_)|(refine BJ ?_;first|refine BN ?_|refine BO ?_)|refine BP ?_)|(refine BK ?_;first|refine BS rfl rfl ?_|refine BT rfl rfl ?_|refine BU rfl ?_)|(refine BL ?_;first|refine BQ ?_)|(refine BR ?_;try simp only [setS]))|refine AA ?_|refine AC ?_|refine AD ?_|refine AE ?_|refine AF rfl rfl ?_|refine AG rfl rfl ?_|refine AH ?_|refine AI ?_|refine AJ ?_|refine AK ?_|refine AL ?_|refine AM ?_|refine AN ?_|refine AO ?_|refine AP ?_|refine AQ rfl ?_|refine AR ?_|refine AS ?_|refine AT rfl ?_|refine AU rfl ?_
    exact ⟨k4, false, rfl, fun q => (by cases q), fun q => absurd (hi.2 q) h0⟩
theorem OS.tail {h : Hp X} {n k : Nat} {v : AV} {cells : List AV} (a : OS h 1 v n cells) (h0 : 0 < n) (hk : k ≤ n) : ∃ vs, (∀ {hh : Hp X} {e : En} {t : List AV} {x y : Od} {kk : IntKind}, x.ev e t = v → y.ev e t = .int kk (k : Int) → (Mv.sl 1 x (some y) none none).ev e t hh = some vs) ∧
    (∀ {hh : Hp X} {cells' : List AV}, OS hh 1 v n cells' → RS hh 1 vs (n - k) (cells'.drop k)) ∧
    ∀ {hh : Hp X} {cells' : List AV}, OS hh 1 v n cells' → ∃ h', (∀ {e : En} {t : List AV} {x : Od}, x.ev e t = vs → (Ef.clear 1 [.int .i64 0] x).ev e t hh = some (.tup [], h')) ∧ Keep (blk v) hh h' ∧ ∃ c2, OS h' 1 v n c2 ∧ c2.take k = cells'.take k := by
  cases v <;> first | exact a.elim | skip
  case snil => obtain ⟨h1, _⟩ := a; omega
  rename_i z g o m cap
  obtain ⟨rfl, rfl, hz, hg, l, hl, hle, hc, hcap⟩ := a
  refine ⟨.slice 1 g (o + k * 1) (m - k) (match cap with | none => none | some j => some (j - k)), fun {hh e t x y kk} hx hy => ?_, fun {hh cells'} a => ?_, fun {hh cells'} a => ?_⟩
  · have hl2 := ble_t hk
    simp only [Mv.ev, hx, slB, Nat.beq_refl, Bool.not_true, cond_false]
    simp only [oev, hy, nOf_nat, hl2, cond_true]; cases cap <;> rfl
  · obtain ⟨_, _, _, hg2, l2, hl2, hle2, hc2, _⟩ := a
    refine ⟨rfl, rfl, hg2, l2, rowOf_rw hl2, by omega, ?_⟩
    rw [hc2, List.drop_take, List.drop_drop]
    congr 1
    · omega
    · congr 1; omega
  · obtain ⟨_, _, _, hg2, l2, hl2, hle2, hc2, hcap2⟩ := a
    by_cases hkm : m - k = 0
    · refine ⟨hh, fun {e t x} hx => ?_, Keep.refl _ _, cells', ⟨rfl, rfl, hz, hg2, l2, hl2, hle2, hc2, hcap2⟩, rfl⟩
      simp only [Ef.ev, hx, Nat.beq_refl, cond_true, hkm]
    · have hrl : (rep [.int .i64 0] (m - k)).length = m - k := by
        generalize m - k = j
        induction j with
        | zero => rfl
        | succ j ih => simp only [rep, List.length_append, List.length_singleton, ih]; omega
      refine ⟨hh.put g (.rw (spl (o + k * 1) (rep [.int .i64 0] (m - k)) l2)), fun {e t x} hx => ?_, Keep.put _ _ _ rfl, ((spl (o + k * 1) (rep [.int .i64 0] (m - k)) l2).drop o).take (m * 1), ⟨rfl, rfl, hz, hg2, _, Hp.put_self _ _ _, ?_, rfl, ?_⟩, ?_⟩
      · simp only [Ef.ev, hx, Nat.beq_refl, cond_true, nbeq hkm, cond_false, hl2]
        rw [ble_t (show o + k * 1 + (m - k) * 1 ≤ l2.length by omega)]
        rfl
      · rw [spl_len2 (by rw [hrl]; omega)]; exact hle2
      · rw [spl_len2 (by rw [hrl]; omega)]; exact hcap2
      · rw [hc2, List.take_take, List.take_take, Nat.min_eq_left (by omega)]
        unfold spl
        have q1 : o ≤ (List.take (o + k * 1) l2).length := by rw [List.length_take]; omega
        have q2 : k ≤ (List.drop o (List.take (o + k * 1) l2)).length := by rw [List.length_drop, List.length_take]; omega
        rw [List.drop_append_of_le_length q1, List.take_append_of_le_length q2, List.drop_take, List.take_take]
        congr 1
        omega
theorem ef_ty {X : Type} {m : Ef} {e : En} {t : List AV} {h h' : Hp X} {v : AV} (H : m.ev e t h = some (v, h')) : m.ev e t h = some (v, h') := H
theorem iv_at {l : List Int} {i : Nat} {x : Int} (h : l[i]? = some x) : (l.map iv)[i]? = some (.int .i64 x) := by rw [List.getElem?_map, h]; rfl
set_option maxHeartbeats 2000000 in
theorem compact_ok (hE : ∀ f e, E f = some e → e.plain) (hf : E 31 = some (.bc b_compactI64)) {h : Hp X} {v : AV} {zs : List Int} (a : OS h 1 v zs.length (zs.map iv)) (hn : zs.length ≤ 1000000) :
    WF (lim E) 31 [v] h fun x h' => Keep (blk v) h h' ∧ RS h' 1 x (dd zs).length ((dd zs).map iv) ∧ ∀ k, blk x k → blk v k := by
  refine wf_bc hE hf rfl ?_
  simp only [b_compactI64, List.map, getS]
  by_cases h2 : zs.length < 2
  · have e : dd zs = zs := by
      match zs, h2 with
      | [], _ => rfl
      | [x], _ => rfl
    rw [e]
    repeat first|(refine BG ?_;first|(refine BH ?_;first|(refine BI ?_;refine BM ?_)|(refine BJ ?_;first|refine BN ?_|refine BO ?_)|refine BV (a.rs.lenv (by rfl)) ?_|refine BP ?_)|(refine BK ?_;first|refine BS rfl rfl ?_|refine BT rfl rfl ?_|refine BU rfl ?_)|(refine BL ?_;first|refine BQ ?_)|(refine BR ?_;try simp only [setS]))|refine AA ?_|refine AC ?_|refine AD ?_|refine AE ?_|refine AF rfl rfl ?_|refine AG rfl rfl ?_|refine AH ?_|refine AI ?_|refine AJ ?_|refine AK ?_|refine AL ?_|refine AM ?_|refine AN ?_|refine AO ?_|refine AP ?_|refine AQ rfl ?_|refine AR ?_|refine AS ?_|refine AT rfl ?_|refine AU rfl ?_
    exact ⟨Keep.refl _ _, a.rs, fun k q => q⟩
  repeat first|(refine BG ?_;first|(refine BH ?_;first|(refine BI ?_;refine BM ?_)|(refine BJ ?_;first|refine BN ?_|refine BO ?_)|refine BV (a.rs.lenv (by rfl)) ?_|refine BP ?_)|(refine BK ?_;first|refine BS rfl rfl ?_|refine BT rfl rfl ?_|refine BU rfl ?_)|(refine BL ?_;first|refine BQ ?_)|(refine BR ?_;try simp only [setS]))|refine AA ?_|refine AC ?_|refine AD ?_|refine AE ?_|refine AF rfl rfl ?_|refine AG rfl rfl ?_|refine AH ?_|refine AI ?_|refine AJ ?_|refine AK ?_|refine AL ?_|refine AM ?_|refine AN ?_|refine AO ?_|refine AP ?_|refine AQ rfl ?_|refine AR ?_|refine AS ?_|refine AT rfl ?_|refine AU rfl ?_
  have hz0 : 0 < zs.length := by omega
  have e1 : dd (zs.take 1) = zs.take 1 := by
    match zs, hz0 with
    | x :: _, _ => rfl
  refine wb_loop (fun n t hh => ∃ (i : Nat) (s3 s4 s6 s7 s8 s9 : AV), 1 ≤ i ∧ i ≤ zs.length ∧ n = zs.length - i ∧ hh = h ∧ dd (zs.take i) = zs.take i ∧ t = [v, .snil, .int .i64 i, s3, s4, .bool false, s6, s7, s8, s9]) ?_ (zs.length - 1) _ _ ⟨1, _, _, _, _, _, _, by omega, by omega, rfl, rfl, e1, rfl⟩
  rintro n t hh ⟨i, s3, s4, s6, s7, s8, s9, hi1, hi, hm, eh, hdd, rfl⟩
  have eh := eh.symm
  subst eh
  by_cases hlt : i < zs.length
  · obtain ⟨m, rfl⟩ : ∃ m, i = m + 1 := ⟨i - 1, by omega⟩
    obtain ⟨x, hx⟩ : ∃ x, zs[m]? = some x := ⟨_, List.getElem?_eq_getElem (by omega)⟩
    obtain ⟨y, hy⟩ : ∃ y, zs[m + 1]? = some y := ⟨_, List.getElem?_eq_getElem hlt⟩
    obtain ⟨gx, ox, ax, lx⟩ := a.rs.at2 (i := m) (by omega)
    obtain ⟨gy, oy, ay, ly⟩ := a.rs.at2 (i := m + 1) hlt
    have lx1 : ∀ {e : En} {t : List AV} {w : Od}, w.ev e t = .ptr gx ox → (Mv.ld1 w).ev e t h = some (.int .i64 x) := fun hw => by rw [lx (Keep.refl NoB h) (fun _ _ q => q) hw, iv_at hx]
    have ly1 : ∀ {e : En} {t : List AV} {w : Od}, w.ev e t = .ptr gy oy → (Mv.ld1 w).ev e t h = some (.int .i64 y) := fun hw => by rw [ly (Keep.refl NoB h) (fun _ _ q => q) hw, iv_at hy]
    have hdt := dd_take (zs := zs) (p := m + 1) (x := x) (y := y) (by omega) (by rw [Nat.add_sub_cancel]; exact hx) hy
    by_cases hxy : y = x
    · rw [if_pos hxy.symm, hdd] at hdt
      obtain ⟨vs, t1, t2, _⟩ := a.tail (k := m + 1) hz0 hi
      repeat first|(refine BG ?_;first|(refine BH ?_;first|(refine BI ?_;refine BM ?_)|(refine BJ ?_;first|refine BN ?_|refine BO ?_)|refine BV (a.rs.lenv (by rfl)) ?_|refine BP ?_)|(refine BK ?_;first|refine BS rfl rfl ?_|refine BT rfl rfl ?_|refine BU rfl ?_)|(refine BL ?_;first|refine BQ ?_)|(refine BR ?_;try simp only [setS]))|refine AA ?_|refine AC ?_|refine AD ?_|refine AF rfl rfl ?_|refine AG rfl rfl ?_|refine AH ?_|refine AI ?_|refine AJ ?_|refine AK ?_|refine AL ?_|refine AM ?_|refine AN ?_|refine AO ?_|refine AP ?_|refine AQ rfl ?_|refine AR ?_|refine AS ?_|refine AT rfl ?_|refine AU rfl ?_
      repeat first|(refine BG ?_;first|(refine BH ?_;first|(refine BI ?_;refine BM ?_)|(refine BJ ?_;first|refine BN ?_|refine BO ?_)|refine BV (ay rfl rfl) ?_|refine BV (ly1 rfl) ?_|refine BV (v_pred rfl rfl (by omega)) ?_|refine BV (ax rfl rfl) ?_|refine BV (lx1 rfl) ?_|refine BV (t1 rfl rfl) ?_|refine BP ?_)|(refine BK ?_;first|refine BS rfl rfl ?_|refine BT rfl rfl ?_|refine BU rfl ?_)|(refine BL ?_;first|refine BQ ?_)|(refine BR ?_;try simp only [setS]))|(refine BX ?_;first|refine BY rfl ?_|(refine BZ ?_;refine CA ?_)|refine CB (ay rfl rfl) ?_|refine CB (ly1 rfl) ?_|refine CB (v_pred rfl rfl (by omega)) ?_|refine CB (ax rfl rfl) ?_|refine CB (lx1 rfl) ?_|refine CB (t1 rfl rfl) ?_|refine CC ?_|(refine CD ?_;try simp only [setS]))|refine AA ?_|refine AC ?_|refine AD ?_|refine AE ?_|refine AF rfl rfl ?_|refine AG rfl rfl ?_|refine AI ?_|refine AJ ?_|refine AK ?_|refine AL ?_|refine AM ?_|refine AN ?_|refine AO ?_|refine AP ?_|refine AQ rfl ?_|refine AR ?_|refine AS ?_|refine AT rfl ?_|refine AU rfl ?_
      refine wb_mid (fun t' h' => ∃ (k : Nat) (C : List AV) (s4 s8 s9 : AV), Keep (blk v) h h' ∧ OS h' 1 v zs.length C ∧ C.take k = (dd zs).map iv ∧ (dd zs).length = k ∧ k ≤ zs.length ∧ t' = [v, .snil, .int .i64 k, vs, s4, .bool false, .bool true, .bool true, s8, s9]) ?_ ?_
      · repeat first|(refine BG ?_;first|(refine BH ?_;first|(refine BI ?_;refine BM ?_)|(refine BJ ?_;first|refine BN ?_|refine BO ?_)|refine BP ?_)|(refine BK ?_;first|refine BS rfl rfl ?_|refine BT rfl rfl ?_|refine BU rfl ?_)|(refine BL ?_;first|refine BQ ?_)|(refine BR ?_;try simp only [setS]))|refine AA ?_|refine AC ?_|refine AD ?_|refine AE ?_|refine AF rfl rfl ?_|refine AG rfl rfl ?_|refine AH ?_|refine AI ?_|refine AJ ?_|refine AK ?_|refine AL ?_|refine AM ?_|refine AN ?_|refine AO ?_|refine AP ?_|refine AQ rfl ?_|refine AR ?_|refine AS ?_|refine AT rfl ?_|refine AU rfl ?_
        refine wb_loop (fun n t hh => ∃ (p k : Nat) (C : List AV) (s8 s9 : AV), m + 1 < p ∧ p ≤ zs.length ∧ n = zs.length - p ∧ Keep (blk v) h hh ∧ OS hh 1 v zs.length C ∧ C.take k = (dd (zs.take p)).map iv ∧ (dd (zs.take p)).length = k ∧ k < p ∧ (∀ j, k ≤ j → C[j]? = (zs.map iv)[j]?) ∧ t = [v, .snil, .int .i64 k, vs, .int .i64 (p - (m + 1) : Nat), .bool false, .bool true, .bool true, s8, s9]) ?_ (zs.length - (m + 1 + 1)) _ _ ⟨m + 1 + 1, m + 1, zs.map iv, _, _, by omega, by omega, rfl, Keep.refl _ _, a, by rw [hdt, List.map_take], by rw [hdt, List.length_take]; omega, by omega, fun j _ => rfl, by rw [show m + 1 + 1 - (m + 1) = 1 by omega]; rfl⟩
        rintro n t hh ⟨p, k, C, s8, s9, hp1, hp2, hm2, K, o, hC, hk, hkp, hrest, rfl⟩
        have rs := t2 o
        by_cases hpl : p < zs.length
        · obtain ⟨r, rfl⟩ : ∃ r, p = r + 1 := ⟨p - 1, by omega⟩
          obtain ⟨u, hu⟩ : ∃ u, zs[r]? = some u := ⟨_, List.getElem?_eq_getElem (by omega)⟩
          obtain ⟨w, hw⟩ : ∃ w, zs[r + 1]? = some w := ⟨_, List.getElem?_eq_getElem hpl⟩
          have hdt2 := dd_take (zs := zs) (p := r + 1) (x := u) (y := w) (by omega) (by rw [Nat.add_sub_cancel]; exact hu) hw
          obtain ⟨j, hj⟩ : ∃ j, r + 1 - (m + 1) = j + 1 := ⟨r - m - 1, by omega⟩
          rw [hj]
          obtain ⟨ga, oa, aa, la⟩ := rs.at2 (i := j + 1) (by omega)
          obtain ⟨gb, ob, ab, lb⟩ := rs.at2 (i := j) (by omega)
          have la1 : ∀ {e : En} {t : List AV} {z : Od}, z.ev e t = .ptr ga oa → (Mv.ld1 z).ev e t hh = some (.int .i64 w) := fun hz => by
            rw [la (Keep.refl NoB hh) (fun _ _ q => q) hz, List.getElem?_drop, hrest _ (by omega), show m + 1 + (j + 1) = r + 1 by omega, iv_at hw]
          have lb1 : ∀ {e : En} {t : List AV} {z : Od}, z.ev e t = .ptr gb ob → (Mv.ld1 z).ev e t hh = some (.int .i64 u) := fun hz => by
            rw [lb (Keep.refl NoB hh) (fun _ _ q => q) hz, List.getElem?_drop, hrest _ (by omega), show m + 1 + j = r by omega, iv_at hu]
          by_cases huw : u = w
          · rw [if_pos huw] at hdt2
            have hne : ¬ w ≠ u := fun q => q huw.symm
            repeat first|(refine BG ?_;first|(refine BH ?_;first|(refine BI ?_;refine BM ?_)|(refine BJ ?_;first|refine BN ?_|refine BO ?_)|refine BV (rs.lenv (by rfl)) ?_|refine BP ?_)|(refine BK ?_;first|refine BS rfl rfl ?_|refine BT rfl rfl ?_|refine BU rfl ?_)|(refine BL ?_;first|refine BQ ?_)|(refine BR ?_;try simp only [setS]))|refine AA ?_|refine AC ?_|refine AD ?_|refine AF rfl rfl ?_|refine AG rfl rfl ?_|refine AH ?_|refine AI ?_|refine AJ ?_|refine AK ?_|refine AL ?_|refine AM ?_|refine AN ?_|refine AO ?_|refine AP ?_|refine AQ rfl ?_|refine AR ?_|refine AS ?_|refine AT rfl ?_|refine AU rfl ?_
            repeat first|(refine BG ?_;first|(refine BH ?_;first|(refine BI ?_;refine BM ?_)|(refine BJ ?_;first|refine BN ?_|refine BO ?_)|refine BV (aa rfl rfl) ?_|refine BV (la1 rfl) ?_|refine BV (v_pred rfl rfl (by omega)) ?_|refine BV (ab rfl rfl) ?_|refine BV (lb1 rfl) ?_|refine BP ?_)|(refine BK ?_;first|refine BS rfl rfl ?_|refine BT rfl rfl ?_|refine BU rfl ?_)|(refine BL ?_;first|refine BQ ?_)|(refine BR ?_;try simp only [setS]))|(refine BX ?_;first|refine BY rfl ?_|(refine BZ ?_;refine CA ?_)|refine CB (aa rfl rfl) ?_|refine CB (la1 rfl) ?_|refine CB (v_pred rfl rfl (by omega)) ?_|refine CB (ab rfl rfl) ?_|refine CB (lb1 rfl) ?_|refine CC ?_|(refine CD ?_;try simp only [setS]))|refine AA ?_|refine AC ?_|refine AD ?_|refine AE ?_|refine AF rfl rfl ?_|refine AG rfl rfl ?_|refine AH ?_|refine AI ?_|refine AJ ?_|refine AK ?_|refine AL ?_|refine AM ?_|refine AN ?_|refine AO ?_|refine AP ?_|refine AQ rfl ?_|refine AR ?_|refine AS ?_|refine AT rfl ?_|refine AU rfl ?_
            refine round_norm (n - 1) (by omega) ⟨r + 1 + 1, k, C, .bool true, .bool false, by omega, by omega, by omega, K, o, by rw [hdt2]; exact hC, by rw [hdt2]; exact hk, by omega, hrest, ?_⟩
            rw [show r + 1 + 1 - (m + 1) = j + 1 + 1 by omega, show (((j + 1 : Nat) : Int) + 1) = ((j + 1 + 1 : Nat) : Int) by omega]
          · rw [if_neg huw] at hdt2
            have hne : w ≠ u := fun q => huw q.symm
            obtain ⟨gs, os, lc, az, bs, hl, _, o2, hbg⟩ := o.set (k := k) (c := .int .i64 w) (by omega)
            repeat first|(refine BG ?_;first|(refine BH ?_;first|(refine BI ?_;refine BM ?_)|(refine BJ ?_;first|refine BN ?_|refine BO ?_)|refine BV (rs.lenv (by rfl)) ?_|refine BP ?_)|(refine BK ?_;first|refine BS rfl rfl ?_|refine BT rfl rfl ?_|refine BU rfl ?_)|(refine BL ?_;first|refine BQ ?_)|(refine BR ?_;try simp only [setS]))|refine AA ?_|refine AC ?_|refine AD ?_|refine AF rfl rfl ?_|refine AG rfl rfl ?_|refine AH ?_|refine AI ?_|refine AJ ?_|refine AK ?_|refine AL ?_|refine AM ?_|refine AN ?_|refine AO ?_|refine AP ?_|refine AQ rfl ?_|refine AR ?_|refine AS ?_|refine AT rfl ?_|refine AU rfl ?_
            repeat first|(refine BG ?_;first|(refine BH ?_;first|(refine BI ?_;refine BM ?_)|(refine BJ ?_;first|refine BN ?_|refine BO ?_)|refine BV (aa rfl rfl) ?_|refine BV (la1 rfl) ?_|refine BV (v_pred rfl rfl (by omega)) ?_|refine BV (ab rfl rfl) ?_|refine BV (lb1 rfl) ?_|refine BV (az rfl rfl) ?_|refine BP ?_)|(refine BK ?_;first|refine BS rfl rfl ?_|refine BT rfl rfl ?_|refine BU rfl ?_)|(refine BL ?_;first|refine BW (ef_bx bs rfl rfl ⟨rfl, rfl⟩ hl) ?_|refine BQ ?_)|(refine BR ?_;try simp only [setS]))|(refine BX ?_;first|refine BY rfl ?_|(refine BZ ?_;refine CA ?_)|refine CB (aa rfl rfl) ?_|refine CB (la1 rfl) ?_|refine CB (v_pred rfl rfl (by omega)) ?_|refine CB (ab rfl rfl) ?_|refine CB (lb1 rfl) ?_|refine CB (az rfl rfl) ?_|refine CC ?_|(refine CD ?_;try simp only [setS]))|refine AA ?_|refine AC ?_|refine AD ?_|refine AE ?_|refine AF rfl rfl ?_|refine AG rfl rfl ?_|refine AH ?_|refine AI ?_|refine AJ ?_|refine AK ?_|refine AL ?_|refine AM ?_|refine AN ?_|refine AO ?_|refine AP ?_|refine AQ rfl ?_|refine AR ?_|refine AS ?_|refine AT rfl ?_|refine AU rfl ?_
            have k2 : Keep (blk v) hh (hh.put gs (.rw (spl os [.int .i64 w] lc))) := Keep.put _ _ _ hbg
            have hCl : k < C.length := by have := o.len; omega
            refine round_norm (n - 1) (by omega) ⟨r + 1 + 1, k + 1, C.set k (.int .i64 w), .bool true, .bool true, by omega, by omega, by omega, K.trans k2 (fun _ _ q => q), o2, ?_, by rw [hdt2, List.length_append, hk]; rfl, by omega, fun i hi => ?_, ?_⟩
            · rw [hdt2, List.map_append, ← hC, List.take_add_one, List.getElem?_set_self hCl, List.take_set_of_le (Nat.le_refl _)]
              rfl
            · rw [List.getElem?_set_ne (by omega)]
              exact hrest i (by omega)
            · rw [show r + 1 + 1 - (m + 1) = j + 1 + 1 by omega, show (((j + 1 : Nat) : Int) + 1) = ((j + 1 + 1 : Nat) : Int) by omega, show ((k : Int) + 1) = ((k + 1 : Nat) : Int) by omega]
        · obtain rfl : p = zs.length := by omega
          rw [List.take_length] at hC hk
          repeat first|(refine BG ?_;first|(refine BH ?_;first|(refine BI ?_;refine BM ?_)|(refine BJ ?_;first|refine BN ?_|refine BO ?_)|refine BV (rs.lenv (by rfl)) ?_|refine BP ?_)|(refine BK ?_;first|refine BS rfl rfl ?_|refine BT rfl rfl ?_|refine BU rfl ?_)|(refine BL ?_;first|refine BQ ?_)|(refine BR ?_;try simp only [setS]))|refine AA ?_|refine AC ?_|refine AD ?_|refine AE ?_|refine AF rfl rfl ?_|refine AG rfl rfl ?_|refine AH ?_|refine AI ?_|refine AJ ?_|refine AK ?_|refine AL ?_|refine AM ?_|refine AN ?_|refine AO ?_|refine AP ?_|refine AQ rfl ?_|refine AR ?_|refine AS ?_|refine AT rfl ?_|refine AU rfl ?_
          exact mid_norm ⟨k, C, _, _, _, K, o, hC, hk, by omega, rfl⟩
      rintro t' h' ⟨k, C, s4', s8', s9', K, o, hC, hk, hkl, rfl⟩
      obtain ⟨ws, u1, _, u3⟩ := o.tail hz0 hkl
      obtain ⟨h2', e2, k2, c2, o2, hc2⟩ := u3 o
      obtain ⟨xs, x1, x2, x3, x4⟩ := o2.rs.sl (lo := 0) (hi := k) (Nat.zero_le _) hkl
      repeat first|(refine BG ?_;first|(refine BH ?_;first|(refine BI ?_;refine BM ?_)|(refine BJ ?_;first|refine BN ?_|refine BO ?_)|refine BV (u1 rfl rfl) ?_|refine BV (x4 (by rfl) (.inl ⟨rfl, rfl⟩) (.inr ⟨_, _, rfl, rfl⟩)) ?_|refine BP ?_)|(refine BK ?_;first|refine BS rfl rfl ?_|refine BT rfl rfl ?_|refine BU rfl ?_)|(refine BL ?_;first|refine BW (ef_ty (e2 rfl)) ?_|refine BQ ?_)|(refine BR ?_;try simp only [setS]))|refine AA ?_|refine AC ?_|refine AD ?_|refine AE ?_|refine AF rfl rfl ?_|refine AG rfl rfl ?_|refine AH ?_|refine AI ?_|refine AJ ?_|refine AK ?_|refine AL ?_|refine AM ?_|refine AN ?_|refine AO ?_|refine AP ?_|refine AQ rfl ?_|refine AR ?_|refine AS ?_|refine AT rfl ?_|refine AU rfl ?_
      refine ⟨K.trans k2 (fun _ _ q => q), ?_, x2⟩
      have e3 : (c2.drop (0 * 1)).take ((k - 0) * 1) = (dd zs).map iv := by
        rw [Nat.zero_mul, List.drop_zero, Nat.sub_zero, Nat.mul_one, hc2, hC]
      rw [e3, Nat.sub_zero, ← hk] at x1
      exact x1
    · rw [if_neg (fun q => hxy q.symm), hdd] at hdt
      repeat first|(refine BG ?_;first|(refine BH ?_;first|(refine BI ?_;refine BM ?_)|(refine BJ ?_;first|refine BN ?_|refine BO ?_)|refine BV (a.rs.lenv (by rfl)) ?_|refine BP ?_)|(refine BK ?_;first|refine BS rfl rfl ?_|refine BT rfl rfl ?_|refine BU rfl ?_)|(refine BL ?_;first|refine BQ ?_)|(refine BR ?_;try simp only [setS]))|refine AA ?_|refine AC ?_|refine AD ?_|refine AF rfl rfl ?_|refine AG rfl rfl ?_|refine AH ?_|refine AI ?_|refine AJ ?_|refine AK ?_|refine AL ?_|refine AM ?_|refine AN ?_|refine AO ?_|refine AP ?_|refine AQ rfl ?_|refine AR ?_|refine AS ?_|refine AT rfl ?_|refine AU rfl ?_
      repeat first|(refine BG ?_;first|(refine BH ?_;first|(refine BI ?_;refine BM ?_)|(refine BJ ?_;first|refine BN ?_|refine BO ?_)|refine BV (ay rfl rfl) ?_|refine BV (ly1 rfl) ?_|refine BV (v_pred rfl rfl (by omega)) ?_|refine BV (ax rfl rfl) ?_|refine BV (lx1 rfl) ?_|refine BP ?_)|(refine BK ?_;first|refine BS rfl rfl ?_|refine BT rfl rfl ?_|refine BU rfl ?_)|(refine BL ?_;first|refine BQ ?_)|(refine BR ?_;try simp only [setS]))|(refine BX ?_;first|refine BY rfl ?_|(refine BZ ?_;refine CA ?_)|refine CB (ay rfl rfl) ?_|refine CB (ly1 rfl) ?_|refine CB (v_pred rfl rfl (by omega)) ?_|refine CB (ax rfl rfl) ?_|refine CB (lx1 rfl) ?_|refine CC ?_|(refine CD ?_;try simp only [setS]))|refine AA ?_|refine AC ?_|refine AD ?_|refine AE ?_|refine AF rfl rfl ?_|refine AG rfl rfl ?_|refine AH ?_|refine AI ?_|refine AJ ?_|refine AK ?_|refine AL ?_|refine AM ?_|refine AN ?_|refine AO ?_|refine AP ?_|refine AQ rfl ?_|refine AR ?_|refine AS ?_|refine AT rfl ?_|refine AU rfl ?_
      rw [show (((m + 1 : Nat) : Int) + 1) = ((m + 1 + 1 : Nat) : Int) by omega]
      refine round_norm (n - 1) (by omega) ⟨m + 1 + 1, _, _, _, _, _, _, by omega, by omega, by omega, rfl, ?_, rfl⟩
      rw [hdt, List.take_add_one (i := m + 1), hy]
      rfl
  · rw [List.take_of_length_le (by omega)] at hdd
    rw [hdd]
    repeat first|(refine BG ?_;first|(refine BH ?_;first|(refine BI ?_;refine BM ?_)|(refine BJ ?_;first|refine BN ?_|refine BO ?_)|refine BV (a.rs.lenv (by rfl)) ?_|refine BP ?_)|(refine BK ?_;first|refine BS rfl rfl ?_|refine BT rfl rfl ?_|refine BU rfl ?_)|(refine BL ?_;first|refine BQ ?_)|(refine BR ?_;try simp only [setS]))|refine AA ?_|refine AC ?_|refine AD ?_|refine AE ?_|refine AF rfl rfl ?_|refine AG rfl rfl ?_|refine AH ?_|refine AI ?_|refine AJ ?_|refine AK ?_|refine AL ?_|refine AM ?_|refine AN ?_|refine AO ?_|refine AP ?_|refine AQ rfl ?_|refine AR ?_|refine AS ?_|refine AT rfl ?_|refine AU rfl ?_
    exact ⟨Keep.refl _ _, a.rs, fun k q => q⟩
end
end Am
end Go.Proofs.Ytkgplkddpigagaa
