/- Layer 23: the document's folds. -/
import Derived.Test.YtkgplkddpigagaaQbC
import Derived.Test.YtkgplkddpigagaaQbT
set_option linter.unusedVariables false
set_option linter.unusedSimpArgs false
namespace Go.Proofs.Ytkgplkddpigagaa
namespace Am
open Go.RowKit
set_option maxRecDepth 100000
def b_ref20Right : BF := ⟨9, [0, 2], (.seq (.reg [.mk none (.slot 1) (.mov (.mv (.const (.bool false))))]) (.seq (.reg [.mk none (.env 3) (.mov (.mv (.slot 0))), .mk none (.env 4) (.mov (.bin .geq .no (.env 3) (.const (.int .i64 1)))), .mk none (.env 5) (.mov (.mv (.env 4))), .mk (some ((.env 5), true)) (.env 6) (.mov (.mv (.slot 0))), .mk (some ((.env 5), true)) (.env 7) (.mov (.bin .leq .no (.env 6) (.const (.int .i64 7)))), .mk none (.env 8) (.mov (.pick (.env 5) (.env 7) (.const (.bool false)))), .mk none (.slot 1) (.mov (.mv (.env 8)))]) .ret)), [.slot (.slot 1)]⟩
def b_ref20Do : BF := ⟨109, [0, 1, 4, 5, 6, 7, 8, 9, 10, 11, 19, 24, 32, 37, 38, 45, 48, 59, 68, 79, 83, 86, 91, 94, 100], (.seq (.reg [.mk none (.slot 2) (.eff (.alloc [(.int .i64 0), (.int .i64 0)])), .mk none (.slot 3) (.mov (.mv (.const (.int .i64 0))))]) (.seq (.seq (.reg [.mk none (.env 12) (.mov (.mv (.slot 0))), .mk none (.env 13) (.call 34 [(.env 12)]), .mk none (.env 14) (.mov (.notb (.env 13))), .mk none (.env 15) (.mov (.mv (.env 14))), .mk (some ((.env 15), false)) (.env 16) (.mov (.mv (.slot 1))), .mk (some ((.env 15), false)) (.env 17) (.mov (.lenv (.env 16))), .mk (some ((.env 15), false)) (.env 18) (.mov (.bin .eql .no (.env 17) (.const (.int .i64 0)))), .mk none (.slot 10) (.mov (.pick (.env 15) (.const (.bool true)) (.env 18)))]) (.cond (.slot 10) (.seq (.reg [.mk none (.env 20) (.mov (.bld [(.int .i64 0), (.int .i64 0)] [])), .mk none .none (.eff (.store 2 (.slot 2) (.env 20))), .mk none (.slot 3) (.mov (.mv (.const (.int .i64 1))))]) .ret) .skip)) (.seq (.seq (.reg [.mk none (.slot 4) (.mov (.mv (.const (.int .i64 0))))]) (.block 0 (.loop (.seq (.seq (.reg [.mk none (.env 21) (.mov (.mv (.slot 4))), .mk none (.env 22) (.mov (.mv (.slot 1))), .mk none (.env 23) (.mov (.lenv (.env 22))), .mk none (.slot 11) (.mov (.bin .lss .no (.env 21) (.env 23)))]) (.cond (.slot 11) .skip (.exit 0))) (.seq (.block 1 (.seq (.reg [.mk none (.env 27) (.mov (.mv (.slot 1))), .mk none (.env 28) (.mov (.mv (.slot 4))), .mk none (.env 29) (.mov (.iaddr 2 (.env 27) (.env 28))), .mk none (.env 30) (.mov (.ldn 2 (.env 29))), .mk none (.env 31) (.call 28 [(.env 30)]), .mk none (.slot 12) (.mov (.notb (.env 31)))]) (.cond (.slot 12) (.seq (.reg [.mk none (.env 33) (.mov (.bld [(.int .i64 0), (.int .i64 0)] [])), .mk none .none (.eff (.store 2 (.slot 2) (.env 33))), .mk none (.slot 3) (.mov (.mv (.const (.int .i64 1))))]) .ret) .skip))) (.reg [.mk none (.env 25) (.mov (.mv (.slot 4))), .mk none (.env 26) (.mov (.bin .add .no (.env 25) (.const (.int .i64 1)))), .mk none (.slot 4) (.mov (.mv (.env 26)))])))))) (.seq (.reg [.mk none (.env 34) (.mov (.mv (.slot 1))), .mk none (.env 35) (.mov (.iaddr 2 (.env 34) (.const (.int .i64 0)))), .mk none (.env 36) (.mov (.ldn 2 (.env 35))), .mk none (.slot 5) (.eff (.alloc [(.int .i64 0), (.int .i64 0)])), .mk none .none (.eff (.store 2 (.slot 5) (.env 36)))]) (.seq (.seq (.reg [.mk none (.slot 13) (.mov (.mv (.slot 0)))]) (.block 2 (.seq (.reg [.mk none (.env 39) (.mov (.bin .eql .no (.slot 13) (.const (.int .i64 5)))), .mk none (.slot 14) (.mov (.mv (.env 39)))]) (.cond (.slot 14) (.seq (.reg [.mk none (.env 40) (.mov (.mv (.slot 1))), .mk none (.env 41) (.mov (.lenv (.env 40))), .mk none (.env 42) (.call 29 [(.env 41), (.const (.int .i64 1))]), .mk none (.env 43) (.mov (.ext 0 (.env 42))), .mk none (.env 44) (.mov (.ext 1 (.env 42))), .mk none .none (.eff (.store 2 (.slot 2) (.env 43))), .mk none (.slot 3) (.mov (.mv (.env 44)))]) .ret) (.seq (.reg [.mk none (.env 46) (.mov (.bin .eql .no (.slot 13) (.const (.int .i64 6)))), .mk none (.slot 15) (.mov (.mv (.env 46)))]) (.cond (.slot 15) (.seq (.reg [.mk none (.env 47) (.mov (.ldn 2 (.slot 5))), .mk none .none (.eff (.store 2 (.slot 2) (.env 47))), .mk none (.slot 3) (.mov (.mv (.const (.int .i64 0))))]) .ret) (.seq (.reg [.mk none (.env 49) (.mov (.bin .eql .no (.slot 13) (.const (.int .i64 7)))), .mk none (.slot 16) (.mov (.mv (.env 49)))]) (.cond (.slot 16) (.seq (.reg [.mk none (.env 50) (.mov (.mv (.slot 1))), .mk none (.env 51) (.mov (.mv (.slot 1))), .mk none (.env 52) (.mov (.lenv (.env 51))), .mk none (.env 53) (.mov (.bin .sub .no (.env 52) (.const (.int .i64 1)))), .mk none (.env 54) (.mov (.iaddr 2 (.env 50) (.env 53))), .mk none (.env 55) (.mov (.ldn 2 (.env 54))), .mk none .none (.eff (.store 2 (.slot 2) (.env 55))), .mk none (.slot 3) (.mov (.mv (.const (.int .i64 0))))]) .ret) .skip)))))))) (.seq (.seq (.reg [.mk none (.slot 6) (.mov (.mv (.const (.int .i64 1))))]) (.block 3 (.loop (.seq (.seq (.reg [.mk none (.env 56) (.mov (.mv (.slot 6))), .mk none (.env 57) (.mov (.mv (.slot 1))), .mk none (.env 58) (.mov (.lenv (.env 57))), .mk none (.slot 17) (.mov (.bin .lss .no (.env 56) (.env 58)))]) (.cond (.slot 17) .skip (.exit 3))) (.seq (.block 4 (.seq (.dreg [(.mk none (.env 62) (.mov (.mv (.slot 1))), []), (.mk none (.env 63) (.mov (.mv (.slot 6))), []), (.mk none (.env 64) (.mov (.iaddr 2 (.env 62) (.env 63))), []), (.mk none (.env 65) (.mov (.ldn 2 (.env 64))), []), (.mk none (.env 66) (.mov (.ldn 2 (.slot 5))), []), (.mk none (.env 67) (.call 17 [(.env 65), (.env 66)]), []), (.mk none (.slot 7) (.mov (.mv (.env 67))), [])]) (.seq (.reg [.mk none (.slot 18) (.mov (.mv (.slot 0)))]) (.block 5 (.seq (.reg [.mk none (.env 84) (.mov (.bin .eql .no (.slot 18) (.const (.int .i64 2)))), .mk none (.slot 20) (.mov (.mv (.env 84)))]) (.cond (.slot 20) (.seq (.reg [.mk none (.env 85) (.mov (.mv (.slot 7))), .mk none (.slot 21) (.mov (.bin .lss .no (.env 85) (.const (.int .i64 0))))]) (.cond (.slot 21) (.reg [.mk none (.env 87) (.mov (.mv (.slot 1))), .mk none (.env 88) (.mov (.mv (.slot 6))), .mk none (.env 89) (.mov (.iaddr 2 (.env 87) (.env 88))), .mk none (.env 90) (.mov (.ldn 2 (.env 89))), .mk none .none (.eff (.store 2 (.slot 5) (.env 90)))]) .skip)) (.seq (.reg [.mk none (.env 92) (.mov (.bin .eql .no (.slot 18) (.const (.int .i64 3)))), .mk none (.slot 22) (.mov (.mv (.env 92)))]) (.cond (.slot 22) (.seq (.reg [.mk none (.env 93) (.mov (.mv (.slot 7))), .mk none (.slot 23) (.mov (.bin .gtr .no (.env 93) (.const (.int .i64 0))))]) (.cond (.slot 23) (.reg [.mk none (.env 95) (.mov (.mv (.slot 1))), .mk none (.env 96) (.mov (.mv (.slot 6))), .mk none (.env 97) (.mov (.iaddr 2 (.env 95) (.env 96))), .mk none (.env 98) (.mov (.ldn 2 (.env 97))), .mk none .none (.eff (.store 2 (.slot 5) (.env 98)))]) .skip)) (.seq (.dreg [(.mk none (.env 70) (.mov (.ldn 2 (.slot 5))), []), (.mk none (.env 71) (.mov (.mv (.slot 1))), []), (.mk none (.env 72) (.mov (.mv (.slot 6))), []), (.mk none (.env 73) (.mov (.iaddr 2 (.env 71) (.env 72))), []), (.mk none (.env 74) (.mov (.ldn 2 (.env 73))), []), (.mk none (.slot 8) (.eff (.alloc [(.int .i64 0), (.int .i64 0)])), [0, 1, 2, 3, 4]), (.mk none (.env 75) (.call 14 [(.const (.int .u8 43)), (.env 70), (.env 74)]), [5]), (.mk none (.env 69) (.mov (.mv (.env 75))), []), (.mk none (.env 76) (.mov (.ext 0 (.env 69))), []), (.mk none (.env 77) (.mov (.ext 1 (.env 69))), []), (.mk none .none (.eff (.store 2 (.slot 8) (.env 76))), [9]), (.mk none (.slot 9) (.mov (.mv (.env 77))), [])]) (.seq (.seq (.reg [.mk none (.env 78) (.mov (.mv (.slot 9))), .mk none (.slot 19) (.mov (.bin .neq .no (.env 78) (.const (.int .i64 0))))]) (.cond (.slot 19) (.seq (.reg [.mk none (.env 80) (.mov (.bld [(.int .i64 0), (.int .i64 0)] [])), .mk none (.env 81) (.mov (.mv (.slot 9))), .mk none .none (.eff (.store 2 (.slot 2) (.env 80))), .mk none (.slot 3) (.mov (.mv (.env 81)))]) .ret) .skip)) (.reg [.mk none (.env 82) (.mov (.ldn 2 (.slot 8))), .mk none .none (.eff (.store 2 (.slot 5) (.env 82)))]))))))))))) (.reg [.mk none (.env 60) (.mov (.mv (.slot 6))), .mk none (.env 61) (.mov (.bin .add .no (.env 60) (.const (.int .i64 1)))), .mk none (.slot 6) (.mov (.mv (.env 61)))])))))) (.seq (.seq (.reg [.mk none (.env 99) (.mov (.mv (.slot 0))), .mk none (.slot 24) (.mov (.bin .eql .no (.env 99) (.const (.int .i64 4))))]) (.cond (.slot 24) (.seq (.reg [.mk none (.env 101) (.mov (.ldn 2 (.slot 5))), .mk none (.env 102) (.mov (.mv (.slot 1))), .mk none (.env 103) (.mov (.lenv (.env 102))), .mk none (.env 104) (.mov (.bld [(.int .i64 0), (.int .i64 0)] [(0, 1, (.env 103)), (1, 1, (.const (.int .i64 1)))])), .mk none (.env 105) (.call 14 [(.const (.int .u8 47)), (.env 101), (.env 104)]), .mk none (.env 106) (.mov (.ext 0 (.env 105))), .mk none (.env 107) (.mov (.ext 1 (.env 105))), .mk none .none (.eff (.store 2 (.slot 2) (.env 106))), .mk none (.slot 3) (.mov (.mv (.env 107)))]) .ret) .skip)) (.seq (.reg [.mk none (.env 108) (.mov (.ldn 2 (.slot 5))), .mk none .none (.eff (.store 2 (.slot 2) (.env 108))), .mk none (.slot 3) (.mov (.mv (.const (.int .i64 0))))]) .ret)))))))), [.celln 2 (.slot 2), .slot (.slot 3)]⟩
theorem newF_bad {n d : Int} (h : (newF n d).2 ≠ 0) : newF n d = ((0, 0), (newF n d).2) := by
  unfold newF at h ⊢
  split
  · rfl
  · rename_i h1
    rw [if_neg h1] at h
    split
    · rfl
    · rename_i h2
      rw [if_neg h2] at h
      exact absurd rfl h
theorem addF_bad {a b : QQ} (h : (addF a b).2 ≠ 0) : addF a b = ((0, 0), (addF a b).2) := by
  unfold addF at h ⊢
  split
  · rename_i h1
    rw [if_pos h1] at h
    exact newF_bad h
  · rfl
theorem goF_first {how : Int} (hh : how = 5 ∨ how = 6) : ∀ {l : List QQ} {a : QQ}, goF how a l = (a, 0)
  | [], a => rfl
  | b :: l, a => by
    have e : stepF how a b = (a, 0) := by rcases hh with rfl | rfl <;> rfl
    unfold goF
    rw [e]
    simp only [ne_eq, not_true_eq_false, if_false]
    exact goF_first hh
theorem goF_last : ∀ {l : List QQ} {a q : QQ}, (a :: l)[l.length]? = some q → goF 7 a l = (q, 0)
  | [], a, q, h => by simp at h; subst h; rfl
  | b :: l, a, q, h => by
    have e : stepF 7 a b = (b, 0) := rfl
    unfold goF
    rw [e]
    simp only [ne_eq, not_true_eq_false, if_false]
    exact goF_last (by simpa using h)
theorem goF_cons {how : Int} {a b : QQ} {l : List QQ} (h : (stepF how a b).2 = 0) : goF how a (b :: l) = goF how (stepF how a b).1 l := by
  show (if (stepF how a b).2 ≠ 0 then ((0, 0), (stepF how a b).2) else goF how (stepF how a b).1 l) = _
  rw [if_neg (by simp [h])]
theorem foldF_cons {how : Int} {a : QQ} {l : List QQ} (h1 : (decide (1 ≤ how) && decide (how ≤ 7)) = true) (h2 : (a :: l).all rightF = true) (h3 : l.length + 1 ≤ 1000000) : foldF how (a :: l) = if (goF how a l).2 ≠ 0 then ((0, 0), (goF how a l).2)
    else if how = 5 then ((((l.length + 1 : Nat) : Int), 1), 0)
    else if how = 4 then divF (goF how a l).1 (((l.length + 1 : Nat) : Int), 1)
    else ((goF how a l).1, 0) := by
  show foldF1 how a l = _
  have hq := new_one (n := l.length + 1) (by omega) (by simp only [maxN]; omega)
  unfold foldF1
  rw [if_neg (by rw [h1, h2]; simp), hq]
  simp only [ne_eq, not_true_eq_false, if_false]
theorem v_bld01 {X : Type} {e : En} {t : List AV} {h : Hp X} {x : Od} {n : Int} (hx : x.ev e t = .int .i64 n) : (Mv.bld [.int .i64 0, .int .i64 0] [(0, 1, x), (1, 1, .const (.int .i64 1))]).ev e t h = some (.agg [.int .i64 n, .int .i64 1]) := by
  simp only [Mv.ev, List.map, hx]
  rfl
section
variable {X : Type} {E : Nat → Option (Ent X)}
theorem r20right_ok (hE : ∀ f e, E f = some e → e.plain) (hf : E 34 = some (.bc b_ref20Right)) {h : Hp X} (how : Int) : WF (lim E) 34 [.int .i64 how] h fun x h' => h' = h ∧ x = .bool (decide (1 ≤ how) && decide (how ≤ 7)) := by
  refine wf_bc hE hf rfl ?_
  simp only [b_ref20Right, List.map, getS]
  by_cases h1 : 1 ≤ how
  · by_cases h2 : how ≤ 7
    · rw [decide_eq_true h1, decide_eq_true h2]
      repeat first|(refine BG ?_;first|(refine BH ?_;first|(refine BI ?_;refine BM ?_)|(refine BJ ?_;first|refine BN ?_|refine BO ?_)|refine BP ?_)|(refine BK ?_;first|refine BS rfl rfl ?_|refine BT rfl rfl ?_|refine BU rfl ?_)|(refine BL ?_;first|refine BQ ?_)|(refine BR ?_;try simp only [setS]))|refine AA ?_|refine AC ?_|refine AD ?_|refine AE ?_|refine AF rfl rfl ?_|refine AG rfl rfl ?_|refine AH ?_|refine AI ?_|refine AJ ?_|refine AK ?_|refine AL ?_|refine AM ?_|refine AN ?_|refine AO ?_|refine AP ?_|refine AQ rfl ?_|refine AR ?_|refine AS ?_|refine AT rfl ?_|refine AU rfl ?_
      exact ⟨rfl, rfl⟩
    · rw [decide_eq_true h1, decide_eq_false h2]
      repeat first|(refine BG ?_;first|(refine BH ?_;first|(refine BI ?_;refine BM ?_)|(refine BJ ?_;first|refine BN ?_|refine BO ?_)|refine BP ?_)|(refine BK ?_;first|refine BS rfl rfl ?_|refine BT rfl rfl ?_|refine BU rfl ?_)|(refine BL ?_;first|refine BQ ?_)|(refine BR ?_;try simp only [setS]))|refine AA ?_|refine AC ?_|refine AD ?_|refine AE ?_|refine AF rfl rfl ?_|refine AG rfl rfl ?_|refine AH ?_|refine AI ?_|refine AJ ?_|refine AK ?_|refine AL ?_|refine AM ?_|refine AN ?_|refine AO ?_|refine AP ?_|refine AQ rfl ?_|refine AR ?_|refine AS ?_|refine AT rfl ?_|refine AU rfl ?_
      exact ⟨rfl, rfl⟩
  · rw [decide_eq_false h1]
    repeat first|(refine BG ?_;first|(refine BH ?_;first|(refine BI ?_;refine BM ?_)|(refine BJ ?_;first|refine BN ?_|refine BO ?_)|refine BP ?_)|(refine BK ?_;first|refine BS rfl rfl ?_|refine BT rfl rfl ?_|refine BU rfl ?_)|(refine BL ?_;first|refine BQ ?_)|(refine BR ?_;try simp only [setS]))|refine AA ?_|refine AC ?_|refine AD ?_|refine AE ?_|refine AF rfl rfl ?_|refine AG rfl rfl ?_|refine AH ?_|refine AI ?_|refine AJ ?_|refine AK ?_|refine AL ?_|refine AM ?_|refine AN ?_|refine AO ?_|refine AP ?_|refine AQ rfl ?_|refine AR ?_|refine AS ?_|refine AT rfl ?_|refine AU rfl ?_
    exact ⟨rfl, rfl⟩
structure QcT (E : Nat → Option (Ent X)) : Prop where
  r : QrT E
  cmp : E 17 = some (.bc b_ref1Cmp)
  right : E 34 = some (.bc b_ref20Right)
  fdo : E 37 = some (.bc b_ref20Do)
set_option maxHeartbeats 4000000 in
theorem r20do_ok (hE : ∀ f e, E f = some e → e.plain) (T : QcT E) {h : Hp X} {v : AV} {l : List QQ} (a : Rats h v l) (how : Int) :
    WF (lim E) 37 [.int .i64 how, v] h fun x h' => Keep NoB h h' ∧ x = qe (foldF how l) := by
  have hlen := a.len
  refine wf_bc hE T.fdo rfl ?_
  simp only [b_ref20Do, List.map, getS]
  have bx : Bx (h.push (.rw [.int .i64 0, .int .i64 0])) h.n [.int .i64 0, .int .i64 0] := bx_push
  have kp : Keep NoB h (h.push (.rw [.int .i64 0, .int .i64 0])) := Keep.push _ _ _
  have fin0 : ∀ {hh : Hp X} (K : Keep NoB h hh) {q : QQ}, Keep NoB h (hh.put h.n (.rw [.int .i64 q.1, .int .i64 q.2])) := fun {hh} K {q} =>
    K.own (Keep.put _ _ _ (S := OneB h.n) rfl) (fun k q => Nat.le_of_eq q.symm)
  have a1 := a.up kp
  repeat first|(refine BG ?_;first|(refine BH ?_;first|(refine BI ?_;refine BM ?_)|(refine BJ ?_;first|refine BN ?_|refine BO ?_)|refine BP ?_)|(refine BK ?_;first|refine BS rfl rfl ?_|refine BT rfl rfl ?_|refine BU rfl ?_)|(refine BL ?_;first|refine BQ ?_)|(refine BR ?_;try simp only [setS]))|refine AA ?_|refine AC ?_|refine AD ?_|refine AE ?_|refine AF rfl rfl ?_|refine AG rfl rfl ?_|refine AH ?_|refine AI ?_|refine AJ ?_|refine AK ?_|refine AL ?_|refine AM ?_|refine AN ?_|refine AO ?_|refine AP ?_|refine AQ rfl ?_|refine AR ?_|refine AS ?_|refine AT rfl ?_|refine AU rfl ?_
  generalize h.push (.rw [.int .i64 0, .int .i64 0]) = h1 at *
  refine wr_call_e rfl ((r20right_ok hE T.right how).mono fun x h2 ⟨e1, e2⟩ => ?_)
  subst e2
  have e1 := e1.symm
  subst e1
  rcases Bool.eq_false_or_eq_true (decide (1 ≤ how) && decide (how ≤ 7)) with hh | hh
  case' inr =>
    have e : foldF how l = ((0, 0), 1) := by
      cases l with
      | nil => rfl
      | cons b l => show foldF1 how b l = _; unfold foldF1; rw [if_pos (.inl hh)]
    rw [e, hh]
    repeat first|(refine BG ?_;first|(refine BH ?_;first|(refine BI ?_;refine BM ?_)|(refine BJ ?_;first|refine BN ?_|refine BO ?_)|refine BV (v_notb rfl) ?_|refine BP ?_)|(refine BK ?_;first|refine BS rfl rfl ?_|refine BT rfl rfl ?_|refine BU rfl ?_)|(refine BL ?_;first|refine BW (ef_bxn bx rfl rfl rfl rfl (Nat.le_refl _)) ?_|refine BQ ?_)|(refine BR ?_;try simp only [setS]))|refine AA ?_|refine AC ?_|refine AD ?_|refine AE ?_|refine AF rfl rfl ?_|refine AG rfl rfl ?_|refine AH ?_|refine AI ?_|refine AJ ?_|refine AK ?_|refine AL ?_|refine AM ?_|refine AN ?_|refine AO ?_|refine AP ?_|refine AQ rfl ?_|refine AR ?_|refine AS ?_|refine AT rfl ?_|refine AU rfl ?_
    exact fin_q (q := (0, 0)) (er := 1) bx.put rfl rfl ⟨fin0 kp (q := (0, 0)), rfl⟩
  rw [hh]
  cases l with
  | nil =>
    have e : foldF how [] = ((0, 0), 1) := rfl
    rw [e]
    repeat first|(refine BG ?_;first|(refine BH ?_;first|(refine BI ?_;refine BM ?_)|(refine BJ ?_;first|refine BN ?_|refine BO ?_)|refine BV (v_notb rfl) ?_|refine BV (a1.rs.lenv (by rfl)) ?_|refine BP ?_)|(refine BK ?_;first|refine BS rfl rfl ?_|refine BT rfl rfl ?_|refine BU rfl ?_)|(refine BL ?_;first|refine BW (ef_bxn bx rfl rfl rfl rfl (Nat.le_refl _)) ?_|refine BQ ?_)|(refine BR ?_;try simp only [setS]))|refine AA ?_|refine AC ?_|refine AD ?_|refine AE ?_|refine AF rfl rfl ?_|refine AG rfl rfl ?_|refine AH ?_|refine AI ?_|refine AJ ?_|refine AK ?_|refine AL ?_|refine AM ?_|refine AN ?_|refine AO ?_|refine AP ?_|refine AQ rfl ?_|refine AR ?_|refine AS ?_|refine AT rfl ?_|refine AU rfl ?_
    exact fin_q (q := (0, 0)) (er := 1) bx.put rfl rfl ⟨fin0 kp (q := (0, 0)), rfl⟩
  | cons q0 l =>
    have hl0 : ¬ (((q0 :: l).length : Nat) : Int) = 0 := by rw [List.length_cons]; omega
    have hll : (q0 :: l).length = l.length + 1 := List.length_cons
    have hb12 : 1 ≤ how ∧ how ≤ 7 := by rw [Bool.and_eq_true, decide_eq_true_eq, decide_eq_true_eq] at hh; exact hh
    repeat first|(refine BG ?_;first|(refine BH ?_;first|(refine BI ?_;refine BM ?_)|(refine BJ ?_;first|refine BN ?_|refine BO ?_)|refine BV (v_notb rfl) ?_|refine BV (a1.rs.lenv (by rfl)) ?_|refine BP ?_)|(refine BK ?_;first|refine BS rfl rfl ?_|refine BT rfl rfl ?_|refine BU rfl ?_)|(refine BL ?_;first|refine BQ ?_)|(refine BR ?_;try simp only [setS]))|refine AA ?_|refine AC ?_|refine AD ?_|refine AE ?_|refine AF rfl rfl ?_|refine AG rfl rfl ?_|refine AI ?_|refine AJ ?_|refine AK ?_|refine AL ?_|refine AM ?_|refine AN ?_|refine AO ?_|refine AP ?_|refine AQ rfl ?_|refine AR ?_|refine AS ?_|refine AT rfl ?_|refine AU rfl ?_
    generalize hL : q0 :: l = L at *
    refine wb_mid (fun t' h' => L.all rightF = true ∧ Keep NoB h h' ∧ Keep NoB h1 h' ∧ ∃ s4 s11 s12 : AV, t' = [.int .i64 how, v, .ptr h.n 0, .int .i64 0, s4, .bot, .bot, .bot, .bot, .bot, .bool false, s11, s12, .bot, .bot, .bot, .bot, .bot, .bot, .bot, .bot, .bot, .bot, .bot, .bot]) ?_ ?_
    · repeat first|(refine BG ?_;first|(refine BH ?_;first|(refine BI ?_;refine BM ?_)|(refine BJ ?_;first|refine BN ?_|refine BO ?_)|refine BP ?_)|(refine BK ?_;first|refine BS rfl rfl ?_|refine BT rfl rfl ?_|refine BU rfl ?_)|(refine BL ?_;first|refine BQ ?_)|(refine BR ?_;try simp only [setS]))|refine AA ?_|refine AC ?_|refine AD ?_|refine AE ?_|refine AF rfl rfl ?_|refine AG rfl rfl ?_|refine AH ?_|refine AI ?_|refine AJ ?_|refine AK ?_|refine AL ?_|refine AM ?_|refine AN ?_|refine AO ?_|refine AP ?_|refine AQ rfl ?_|refine AR ?_|refine AS ?_|refine AT rfl ?_|refine AU rfl ?_
      refine wb_loop (fun n t hx => ∃ (i : Nat) (s11 s12 : AV), i ≤ L.length ∧ n = L.length - i ∧ Keep NoB h1 hx ∧ (∀ (j : Nat) q, j < i → L[j]? = some q → rightF q = true) ∧ t = [.int .i64 how, v, .ptr h.n 0, .int .i64 0, .int .i64 i, .bot, .bot, .bot, .bot, .bot, .bool false, s11, s12, .bot, .bot, .bot, .bot, .bot, .bot, .bot, .bot, .bot, .bot, .bot, .bot]) ?_ L.length _ _ ⟨0, _, _, by omega, by omega, Keep.refl _ _, by omega, rfl⟩
      rintro n t hx ⟨i, s11, s12, hi, hm, K, hall, rfl⟩
      by_cases hlt : i < L.length
      · obtain ⟨q, hq⟩ : ∃ q, L[i]? = some q := ⟨_, List.getElem?_eq_getElem hlt⟩
        obtain ⟨g, o, c0, c1⟩ := (a1.rs.up K).atR hq
        have kr := Keep.refl (NoB) (hx : Hp X)
        repeat first|(refine BG ?_;first|(refine BH ?_;first|(refine BI ?_;refine BM ?_)|(refine BJ ?_;first|refine BN ?_|refine BO ?_)|refine BV ((a1.rs.up K).lenv (by rfl)) ?_|refine BV (c0 rfl rfl) ?_|refine BV (c1 kr rfl) ?_|refine BP ?_)|(refine BK ?_;first|refine BS rfl rfl ?_|refine BT rfl rfl ?_|refine BU rfl ?_)|(refine BL ?_;first|refine BQ ?_)|(refine BR ?_;try simp only [setS]))|refine AA ?_|refine AC ?_|refine AD ?_|refine AE ?_|refine AF rfl rfl ?_|refine AG rfl rfl ?_|refine AH ?_|refine AI ?_|refine AJ ?_|refine AK ?_|refine AL ?_|refine AM ?_|refine AN ?_|refine AO ?_|refine AP ?_|refine AQ rfl ?_|refine AR ?_|refine AS ?_|refine AT rfl ?_|refine AU rfl ?_
        refine wr_call_e rfl ((rright_ok hE T.r (a.row q (List.mem_of_getElem? hq))).mono fun x h3 ⟨k3, e3⟩ => ?_)
        subst e3
        rcases Bool.eq_false_or_eq_true (rightF q) with hr | hr
        case' inr =>
          have e : foldF how L = ((0, 0), 1) := by
            rw [← hL]
            show foldF1 how q0 l = _
            unfold foldF1
            rw [if_pos (.inr (by rw [hL, List.all_eq_false]; exact ⟨q, List.mem_of_getElem? hq, by rw [hr]; decide⟩))]
          rw [e, hr]
          have b3 := (bx.up K).up k3
          have K3 := (kp.and K).and k3
          repeat first|(refine BG ?_;first|(refine BH ?_;first|(refine BI ?_;refine BM ?_)|(refine BJ ?_;first|refine BN ?_|refine BO ?_)|refine BV (v_notb rfl) ?_|refine BP ?_)|(refine BK ?_;first|refine BS rfl rfl ?_|refine BT rfl rfl ?_|refine BU rfl ?_)|(refine BL ?_;first|refine BW (ef_bxn b3 rfl rfl rfl rfl (Nat.le_refl _)) ?_|refine BQ ?_)|(refine BR ?_;try simp only [setS]))|refine AA ?_|refine AC ?_|refine AD ?_|refine AE ?_|refine AF rfl rfl ?_|refine AG rfl rfl ?_|refine AH ?_|refine AI ?_|refine AJ ?_|refine AK ?_|refine AL ?_|refine AM ?_|refine AN ?_|refine AO ?_|refine AP ?_|refine AQ rfl ?_|refine AR ?_|refine AS ?_|refine AT rfl ?_|refine AU rfl ?_
          refine mid_ret ?_
          repeat first|(refine BG ?_;first|(refine BH ?_;first|(refine BI ?_;refine BM ?_)|(refine BJ ?_;first|refine BN ?_|refine BO ?_)|refine BP ?_)|(refine BK ?_;first|refine BS rfl rfl ?_|refine BT rfl rfl ?_|refine BU rfl ?_)|(refine BL ?_;first|refine BQ ?_)|(refine BR ?_;try simp only [setS]))|refine AA ?_|refine AC ?_|refine AD ?_|refine AE ?_|refine AF rfl rfl ?_|refine AG rfl rfl ?_|refine AH ?_|refine AI ?_|refine AJ ?_|refine AK ?_|refine AL ?_|refine AM ?_|refine AN ?_|refine AO ?_|refine AP ?_|refine AQ rfl ?_|refine AR ?_|refine AS ?_|refine AT rfl ?_|refine AU rfl ?_
          exact fin_q (q := (0, 0)) (er := 1) b3.put rfl rfl ⟨fin0 K3 (q := (0, 0)), rfl⟩
        rw [hr]
        repeat first|(refine BG ?_;first|(refine BH ?_;first|(refine BI ?_;refine BM ?_)|(refine BJ ?_;first|refine BN ?_|refine BO ?_)|refine BV (v_notb rfl) ?_|refine BP ?_)|(refine BK ?_;first|refine BS rfl rfl ?_|refine BT rfl rfl ?_|refine BU rfl ?_)|(refine BL ?_;first|refine BQ ?_)|(refine BR ?_;try simp only [setS]))|refine AA ?_|refine AC ?_|refine AD ?_|refine AE ?_|refine AF rfl rfl ?_|refine AG rfl rfl ?_|refine AH ?_|refine AI ?_|refine AJ ?_|refine AK ?_|refine AL ?_|refine AM ?_|refine AN ?_|refine AO ?_|refine AP ?_|refine AQ rfl ?_|refine AR ?_|refine AS ?_|refine AT rfl ?_|refine AU rfl ?_
        rw [show ((i : Int) + 1) = ((i + 1 : Nat) : Int) by omega]
        refine round_norm (n - 1) (by omega) ⟨i + 1, _, _, by omega, by omega, K.and k3, fun j q' hj hq' => ?_, rfl⟩
        by_cases hji : j = i
        · subst hji; rw [hq] at hq'; cases hq'; exact hr
        · exact hall j q' (by omega) hq'
      · repeat first|(refine BG ?_;first|(refine BH ?_;first|(refine BI ?_;refine BM ?_)|(refine BJ ?_;first|refine BN ?_|refine BO ?_)|refine BV ((a1.rs.up K).lenv (by rfl)) ?_|refine BP ?_)|(refine BK ?_;first|refine BS rfl rfl ?_|refine BT rfl rfl ?_|refine BU rfl ?_)|(refine BL ?_;first|refine BQ ?_)|(refine BR ?_;try simp only [setS]))|refine AA ?_|refine AC ?_|refine AD ?_|refine AE ?_|refine AF rfl rfl ?_|refine AG rfl rfl ?_|refine AH ?_|refine AI ?_|refine AJ ?_|refine AK ?_|refine AL ?_|refine AM ?_|refine AN ?_|refine AO ?_|refine AP ?_|refine AQ rfl ?_|refine AR ?_|refine AS ?_|refine AT rfl ?_|refine AU rfl ?_
        refine mid_norm ⟨?_, kp.and K, K, _, _, _, rfl⟩
        rw [List.all_eq_true]
        intro q hq
        obtain ⟨j, hj⟩ := List.mem_iff_getElem?.1 hq
        exact hall j q (by have := (List.getElem?_eq_some_iff.1 hj).1; omega) hj
    rintro t' h2 ⟨hall, K2, k2, s4, s11, s12, rfl⟩
    subst hL
    rw [foldF_cons hh hall (by omega)]
    have a2 := a1.up k2
    have bx2 := bx.up k2
    have hq0 := a.row q0 (List.mem_cons_self ..)
    obtain ⟨g, o, c0, c1⟩ := a2.rs.atR (i := 0) (q := q0) rfl
    have kr := Keep.refl (NoB) (h2 : Hp X)
    have kq : Keep NoB h2 (h2.push (.rw [.int .i64 0, .int .i64 0])) := Keep.push _ _ _
    have bq : Bx (h2.push (.rw [.int .i64 0, .int .i64 0])) h2.n [.int .i64 0, .int .i64 0] := bx_push
    repeat first|(refine BG ?_;first|(refine BH ?_;first|(refine BI ?_;refine BM ?_)|(refine BJ ?_;first|refine BN ?_|refine BO ?_)|refine BV (c0 rfl rfl) ?_|refine BV (c1 kr rfl) ?_|refine BP ?_)|(refine BK ?_;first|refine BS rfl rfl ?_|refine BT rfl rfl ?_|refine BU rfl ?_)|(refine BL ?_;first|refine BW (ef_bxn bq rfl rfl rfl rfl (Nat.le_refl _)) ?_|refine BQ ?_)|(refine BR ?_;try simp only [setS]))|refine AA ?_|refine AC ?_|refine AD ?_|refine AE ?_|refine AF rfl rfl ?_|refine AG rfl rfl ?_|refine AI ?_|refine AJ ?_|refine AK ?_|refine AL ?_|refine AM ?_|refine AN ?_|refine AO ?_|refine AP ?_|refine AQ rfl ?_|refine AR ?_|refine AS ?_|refine AT rfl ?_|refine AU rfl ?_
    refine wb_hq (h' := (h2.push (.rw [.int .i64 0, .int .i64 0])).put h2.n (.rw [.int .i64 q0.1, .int .i64 q0.2])) rfl ?_
    have bq : Bx ((h2.push (.rw [.int .i64 0, .int .i64 0])).put h2.n (.rw [.int .i64 q0.1, .int .i64 q0.2])) h2.n [.int .i64 q0.1, .int .i64 q0.2] := bq.put
    have k3 : Keep NoB h2 ((h2.push (.rw [.int .i64 0, .int .i64 0])).put h2.n (.rw [.int .i64 q0.1, .int .i64 q0.2])) := kq.own (Keep.put _ _ _ (S := OneB h2.n) rfl) (fun k q => Nat.le_of_eq q.symm)
    clear kq
    generalize (h2.push (.rw [.int .i64 0, .int .i64 0])).put h2.n (.rw [.int .i64 q0.1, .int .i64 q0.2]) = h3 at *
    have bx3 := bx2.up k3
    have a3 := a2.up k3
    have K3 := K2.and k3
    have hne : h.n ≠ h2.n := by have := bx2.lt; omega
    have hle : h.n ≤ h2.n := K2.n
    by_cases n5 : how = 5
    · subst n5
      rw [goF_first (.inl rfl)]
      simp only [ne_eq, not_true_eq_false, if_false, if_true]
      repeat first|(refine BG ?_;first|(refine BH ?_;first|(refine BI ?_;refine BM ?_)|(refine BJ ?_;first|refine BN ?_|refine BO ?_)|refine BV (a3.rs.lenv (by rfl)) ?_|refine BP ?_)|(refine BK ?_;first|refine BS rfl rfl ?_|refine BT rfl rfl ?_|refine BU rfl ?_)|(refine BL ?_;first|refine BQ ?_)|(refine BR ?_;try simp only [setS]))|refine AA ?_|refine AC ?_|refine AD ?_|refine AE ?_|refine AF rfl rfl ?_|refine AG rfl rfl ?_|refine AH ?_|refine AI ?_|refine AJ ?_|refine AK ?_|refine AL ?_|refine AM ?_|refine AN ?_|refine AO ?_|refine AP ?_|refine AQ rfl ?_|refine AR ?_|refine AS ?_|refine AT rfl ?_|refine AU rfl ?_
      refine wr_call_e rfl ((rnew_ok hE T.r (n := ((q0 :: l).length : Nat)) (d := 1) ⟨by omega, by omega⟩ ⟨by omega, by omega⟩).mono fun x h6 ⟨k6, e6⟩ => ?_)
      subst e6
      rw [hll, new_one (by omega) (by simp only [maxN]; omega)]
      have b6 := bx3.up k6
      repeat first|(refine BG ?_;first|(refine BH ?_;first|(refine BI ?_;refine BM ?_)|(refine BJ ?_;first|refine BN ?_|refine BO ?_)|refine BP ?_)|(refine BK ?_;first|refine BS rfl rfl ?_|refine BT rfl rfl ?_|refine BU rfl ?_)|(refine BL ?_;first|refine BW (ef_bxn b6 rfl rfl rfl rfl (Nat.le_refl _)) ?_|refine BQ ?_)|(refine BR ?_;try simp only [setS]))|refine AA ?_|refine AC ?_|refine AD ?_|refine AE ?_|refine AF rfl rfl ?_|refine AG rfl rfl ?_|refine AH ?_|refine AI ?_|refine AJ ?_|refine AK ?_|refine AL ?_|refine AM ?_|refine AN ?_|refine AO ?_|refine AP ?_|refine AQ rfl ?_|refine AR ?_|refine AS ?_|refine AT rfl ?_|refine AU rfl ?_
      exact fin_q (q := (((l.length + 1 : Nat) : Int), 1)) (er := 0) b6.put rfl rfl ⟨fin0 (K3.and k6) (q := (((l.length + 1 : Nat) : Int), 1)), rfl⟩
    by_cases n6 : how = 6
    · subst n6
      rw [goF_first (.inr rfl)]
      simp only [ne_eq, not_true_eq_false, if_false]
      repeat first|(refine BG ?_;first|(refine BH ?_;first|(refine BI ?_;refine BM ?_)|(refine BJ ?_;first|refine BN ?_|refine BO ?_)|refine BV (v_bxn bq rfl (Nat.le_refl _)) ?_|refine BP ?_)|(refine BK ?_;first|refine BS rfl rfl ?_|refine BT rfl rfl ?_|refine BU rfl ?_)|(refine BL ?_;first|refine BW (ef_bxn bx3 rfl rfl rfl rfl (Nat.le_refl _)) ?_|refine BQ ?_)|(refine BR ?_;try simp only [setS]))|refine AA ?_|refine AC ?_|refine AD ?_|refine AE ?_|refine AF rfl rfl ?_|refine AG rfl rfl ?_|refine AH ?_|refine AI ?_|refine AJ ?_|refine AK ?_|refine AL ?_|refine AM ?_|refine AN ?_|refine AO ?_|refine AP ?_|refine AQ rfl ?_|refine AR ?_|refine AS ?_|refine AT rfl ?_|refine AU rfl ?_
      exact fin_q (q := q0) (er := 0) bx3.put rfl rfl ⟨fin0 K3 (q := q0), rfl⟩
    by_cases n7 : how = 7
    · subst n7
      obtain ⟨z, hz⟩ : ∃ z, (q0 :: l)[l.length]? = some z := ⟨_, List.getElem?_eq_getElem (by rw [hll]; omega)⟩
      rw [goF_last hz]
      simp only [ne_eq, not_true_eq_false, if_false]
      obtain ⟨g', o', d0, d1⟩ := a3.rs.atR hz
      have kr3 := Keep.refl (NoB) (h3 : Hp X)
      have lenv' : ∀ {e : En} {t : List AV} {x : Od}, x.ev e t = v → (Mv.lenv x).ev e t h3 = some (.int .i64 ((l.length + 1 : Nat) : Int)) := fun hx => by rw [a3.rs.lenv hx, hll]
      repeat first|(refine BG ?_;first|(refine BH ?_;first|(refine BI ?_;refine BM ?_)|(refine BJ ?_;first|refine BN ?_|refine BO ?_)|refine BV (lenv' rfl) ?_|refine BV (d0 rfl (congrArg (AV.int .i64) (show (((l.length + 1 : Nat) : Int) - 1) = (l.length : Int) by omega))) ?_|refine BV (d1 kr3 rfl) ?_|refine BP ?_)|(refine BK ?_;first|refine BS rfl rfl ?_|refine BT rfl rfl ?_|refine BU rfl ?_)|(refine BL ?_;first|refine BW (ef_bxn bx3 rfl rfl rfl rfl (Nat.le_refl _)) ?_|refine BQ ?_)|(refine BR ?_;try simp only [setS]))|refine AA ?_|refine AC ?_|refine AD ?_|refine AE ?_|refine AF rfl rfl ?_|refine AG rfl rfl ?_|refine AH ?_|refine AI ?_|refine AJ ?_|refine AK ?_|refine AL ?_|refine AM ?_|refine AN ?_|refine AO ?_|refine AP ?_|refine AQ rfl ?_|refine AR ?_|refine AS ?_|refine AT rfl ?_|refine AU rfl ?_
      exact fin_q (q := z) (er := 0) bx3.put rfl rfl ⟨fin0 K3 (q := z), rfl⟩
    have hx : how = 1 ∨ how = 2 ∨ how = 3 ∨ how = 4 := by omega
    have lenv' : ∀ {hh : Hp X}, Keep NoB h3 hh → ∀ {e : En} {t : List AV} {x : Od}, x.ev e t = v → (Mv.lenv x).ev e t hh = some (.int .i64 ((l.length + 1 : Nat) : Int)) := fun {hh} K {e t x} hx => by rw [(a3.rs.up K).lenv hx, hll]
    repeat first|(refine BG ?_;first|(refine BH ?_;first|(refine BI ?_;refine BM ?_)|(refine BJ ?_;first|refine BN ?_|refine BO ?_)|refine BP ?_)|(refine BK ?_;first|refine BS rfl rfl ?_|refine BT rfl rfl ?_|refine BU rfl ?_)|(refine BL ?_;first|refine BQ ?_)|(refine BR ?_;try simp only [setS]))|refine AA ?_|refine AC ?_|refine AD ?_|refine AE ?_|refine AF rfl rfl ?_|refine AG rfl rfl ?_|refine AI ?_|refine AJ ?_|refine AK ?_|refine AL ?_|refine AM ?_|refine AN ?_|refine AO ?_|refine AP ?_|refine AQ rfl ?_|refine AR ?_|refine AS ?_|refine AT rfl ?_|refine AU rfl ?_
    refine wb_mid (fun t' h' => h' = h3 ∧ t' = [.int .i64 how, v, .ptr h.n 0, .int .i64 0, s4, .ptr h2.n 0, .bot, .bot, .bot, .bot, .bool false, s11, s12, .int .i64 how, .bool false, .bool false, .bool false, .bot, .bot, .bot, .bot, .bot, .bot, .bot, .bot]) ?_ ?_
    · repeat first|(refine BG ?_;first|(refine BH ?_;first|(refine BI ?_;refine BM ?_)|(refine BJ ?_;first|refine BN ?_|refine BO ?_)|refine BP ?_)|(refine BK ?_;first|refine BS rfl rfl ?_|refine BT rfl rfl ?_|refine BU rfl ?_)|(refine BL ?_;first|refine BQ ?_)|(refine BR ?_;try simp only [setS]))|refine AA ?_|refine AC ?_|refine AD ?_|refine AE ?_|refine AF rfl rfl ?_|refine AG rfl rfl ?_|refine AH ?_|refine AI ?_|refine AJ ?_|refine AK ?_|refine AL ?_|refine AM ?_|refine AN ?_|refine AO ?_|refine AP ?_|refine AQ rfl ?_|refine AR ?_|refine AS ?_|refine AT rfl ?_|refine AU rfl ?_
      exact mid_norm ⟨rfl, rfl⟩
    rintro t' h' ⟨eh, rfl⟩
    have eh := eh.symm
    subst eh
    repeat first|(refine BG ?_;first|(refine BH ?_;first|(refine BI ?_;refine BM ?_)|(refine BJ ?_;first|refine BN ?_|refine BO ?_)|refine BP ?_)|(refine BK ?_;first|refine BS rfl rfl ?_|refine BT rfl rfl ?_|refine BU rfl ?_)|(refine BL ?_;first|refine BQ ?_)|(refine BR ?_;try simp only [setS]))|refine AA ?_|refine AC ?_|refine AD ?_|refine AE ?_|refine AF rfl rfl ?_|refine AG rfl rfl ?_|refine AI ?_|refine AJ ?_|refine AK ?_|refine AL ?_|refine AM ?_|refine AN ?_|refine AO ?_|refine AP ?_|refine AQ rfl ?_|refine AR ?_|refine AS ?_|refine AT rfl ?_|refine AU rfl ?_
    refine wb_mid (fun t' h' => ∃ (acc : QQ) (s7 s8 s9 s17 s18 s19 s20 s21 s22 s23 : AV), goF how q0 l = (acc, 0) ∧ I64Q acc ∧ Keep NoB h h' ∧ Bx h' h.n [.int .i64 0, .int .i64 0] ∧ Bx h' h2.n [.int .i64 acc.1, .int .i64 acc.2] ∧ RS h' 2 v (q0 :: l).length ((q0 :: l).flatMap qc) ∧ t' = [.int .i64 how, v, .ptr h.n 0, .int .i64 0, s4, .ptr h2.n 0, .int .i64 (l.length + 1 : Nat), s7, s8, s9, .bool false, s11, s12, .int .i64 how, .bool false, .bool false, .bool false, s17, s18, s19, s20, s21, s22, s23, .bot]) ?_ ?_
    · repeat first|(refine BG ?_;first|(refine BH ?_;first|(refine BI ?_;refine BM ?_)|(refine BJ ?_;first|refine BN ?_|refine BO ?_)|refine BP ?_)|(refine BK ?_;first|refine BS rfl rfl ?_|refine BT rfl rfl ?_|refine BU rfl ?_)|(refine BL ?_;first|refine BQ ?_)|(refine BR ?_;try simp only [setS]))|refine AA ?_|refine AC ?_|refine AD ?_|refine AE ?_|refine AF rfl rfl ?_|refine AG rfl rfl ?_|refine AH ?_|refine AI ?_|refine AJ ?_|refine AK ?_|refine AL ?_|refine AM ?_|refine AN ?_|refine AO ?_|refine AP ?_|refine AQ rfl ?_|refine AR ?_|refine AS ?_|refine AT rfl ?_|refine AU rfl ?_
      have hvk : ∀ k, blk v k → ¬ OneB h2.n k := fun k q1 q2 => by have := a.rs.lt k q1; have q2 : k = h2.n := q2; omega
      refine wb_loop (fun n t hx => ∃ (i : Nat) (acc : QQ) (s7 s8 s9 s17 s18 s19 s20 s21 s22 s23 : AV), i ≤ l.length ∧ n = l.length - i ∧ goF how q0 l = goF how acc (l.drop i) ∧ I64Q acc ∧ Keep (OneB h2.n) h3 hx ∧ Bx hx h.n [.int .i64 0, .int .i64 0] ∧ Bx hx h2.n [.int .i64 acc.1, .int .i64 acc.2] ∧ t = [.int .i64 how, v, .ptr h.n 0, .int .i64 0, s4, .ptr h2.n 0, .int .i64 (i + 1 : Nat), s7, s8, s9, .bool false, s11, s12, .int .i64 how, .bool false, .bool false, .bool false, s17, s18, s19, s20, s21, s22, s23, .bot]) ?_ l.length _ _ ⟨0, q0, _, _, _, _, _, _, _, _, _, _, by omega, by omega, rfl, hq0, Keep.refl _ _, bx3, bq, rfl⟩
      rintro n t hx' ⟨i, acc, s7, s8, s9, s17, s18, s19, s20, s21, s22, s23, hi, hm, hgo, hacc, K, bR, bA, rfl⟩
      have av := a3.rs.keep K hvk
      have lenx : ∀ {e : En} {t : List AV} {x : Od}, x.ev e t = v → (Mv.lenv x).ev e t hx' = some (.int .i64 ((l.length + 1 : Nat) : Int)) := fun hx => by rw [av.lenv hx, hll]
      by_cases hlt : i < l.length
      · obtain ⟨q, hq⟩ : ∃ q, l[i]? = some q := ⟨_, List.getElem?_eq_getElem hlt⟩
        have hq' : (q0 :: l)[i + 1]? = some q := by simpa using hq
        have hqi := a.row q (List.mem_cons_of_mem _ (List.mem_of_getElem? hq))
        obtain ⟨g', o', d0, d1⟩ := av.atR hq'
        have kr := Keep.refl (NoB) (hx' : Hp X)
        have hdr : l.drop i = q :: l.drop (i + 1) := by rw [List.drop_eq_getElem_cons hlt]; congr 1; exact (List.getElem?_eq_some_iff.1 hq).2
        rw [hdr] at hgo
        repeat first|(refine BG ?_;first|(refine BH ?_;first|(refine BI ?_;refine BM ?_)|(refine BJ ?_;first|refine BN ?_|refine BO ?_)|refine BV (lenx rfl) ?_|refine BP ?_)|(refine BK ?_;first|refine BS rfl rfl ?_|refine BT rfl rfl ?_|refine BU rfl ?_)|(refine BL ?_;first|refine BQ ?_)|(refine BR ?_;try simp only [setS]))|refine AA ?_|refine AC ?_|refine AD ?_|refine AF rfl rfl ?_|refine AG rfl rfl ?_|refine AH ?_|refine AI ?_|refine AJ ?_|refine AK ?_|refine AL ?_|refine AM ?_|refine AN ?_|refine AO ?_|refine AP ?_|refine AQ rfl ?_|refine AR ?_|refine AS ?_|refine AT rfl ?_|refine AU rfl ?_
        repeat first|(refine BG ?_;first|(refine BH ?_;first|(refine BI ?_;refine BM ?_)|(refine BJ ?_;first|refine BN ?_|refine BO ?_)|refine BV (d0 rfl rfl) ?_|refine BV (d1 kr rfl) ?_|refine BV (v_bxn bA rfl (Nat.le_refl _)) ?_|refine BP ?_)|(refine BK ?_;first|refine BS rfl rfl ?_|refine BT rfl rfl ?_|refine BU rfl ?_)|(refine BL ?_;first|refine BQ ?_)|(refine BR ?_;try simp only [setS]))|(refine BX ?_;first|refine BY rfl ?_|(refine BZ ?_;refine CA ?_)|refine CB (d0 rfl rfl) ?_|refine CB (d1 kr rfl) ?_|refine CB (v_bxn bA rfl (Nat.le_refl _)) ?_|refine CC ?_|(refine CD ?_;try simp only [setS]))|refine AA ?_|refine AC ?_|refine AD ?_|refine AE ?_|refine AF rfl rfl ?_|refine AG rfl rfl ?_|refine AH ?_|refine AI ?_|refine AJ ?_|refine AK ?_|refine AL ?_|refine AM ?_|refine AN ?_|refine AO ?_|refine AP ?_|refine AQ rfl ?_|refine AR ?_|refine AS ?_|refine AT rfl ?_|refine AU rfl ?_
        refine wd_calls_e rfl ((rcmp_ok hE T.r T.cmp (a := q) (b := acc) hqi hacc).mono fun x h6 ⟨k6, e6⟩ => ?_)
        subst e6
        refine ⟨chk_nil, ?_⟩
        have bA6 := bA.up k6
        have bR6 := bR.up k6
        have av6 := av.up k6
        have K6 := K.and k6
        obtain ⟨g2, o2, f0, f1⟩ := av6.atR hq'
        have kr6 := Keep.refl (NoB) (h6 : Hp X)
        have put6 : ∀ {r : QQ}, Keep (OneB h2.n) h3 (h6.put h2.n (.rw [.int .i64 r.1, .int .i64 r.2])) := fun {r} => K6.trans (Keep.put _ _ _ (S := OneB h2.n) rfl) (fun _ _ q => q)
        have bRp : ∀ {r : QQ}, Bx (h6.put h2.n (.rw [.int .i64 r.1, .int .i64 r.2])) h.n [.int .i64 0, .int .i64 0] := fun {r} => bR6.put_ne hne
        rcases hx with rfl | rfl | rfl | rfl
        · have hs : stepF 1 acc q = addF acc q := rfl
          have kz : Keep NoB h6 (h6.push (.rw [.int .i64 0, .int .i64 0])) := Keep.push _ _ _
          have bz : Bx (h6.push (.rw [.int .i64 0, .int .i64 0])) h6.n [.int .i64 0, .int .i64 0] := bx_push
          have kr6 := Keep.refl (NoB) (h6 : Hp X)
          repeat first|(refine BG ?_;first|(refine BH ?_;first|(refine BI ?_;refine BM ?_)|(refine BJ ?_;first|refine BN ?_|refine BO ?_)|refine BP ?_)|(refine BK ?_;first|refine BS rfl rfl ?_|refine BT rfl rfl ?_|refine BU rfl ?_)|(refine BL ?_;first|refine BQ ?_)|(refine BR ?_;try simp only [setS]))|refine AA ?_|refine AC ?_|refine AD ?_|refine AF rfl rfl ?_|refine AG rfl rfl ?_|refine AH ?_|refine AI ?_|refine AJ ?_|refine AK ?_|refine AL ?_|refine AM ?_|refine AN ?_|refine AO ?_|refine AP ?_|refine AQ rfl ?_|refine AR ?_|refine AS ?_|refine AT rfl ?_|refine AU rfl ?_
          repeat first|(refine BG ?_;first|(refine BH ?_;first|(refine BI ?_;refine BM ?_)|(refine BJ ?_;first|refine BN ?_|refine BO ?_)|refine BV (f0 rfl rfl) ?_|refine BV (f1 kr6 rfl) ?_|refine BV (v_bxn bA6 rfl (Nat.le_refl _)) ?_|refine BP ?_)|(refine BK ?_;first|refine BS rfl rfl ?_|refine BT rfl rfl ?_|refine BU rfl ?_)|(refine BL ?_;first|refine BQ ?_)|(refine BR ?_;try simp only [setS]))|(refine BX ?_;first|refine BY rfl ?_|(refine BZ ?_;refine CA ?_)|refine CB (f0 rfl rfl) ?_|refine CB (f1 kr6 rfl) ?_|refine CB (v_bxn bA6 rfl (Nat.le_refl _)) ?_|refine CC ?_|(refine CD ?_;try simp only [setS]))|refine AA ?_|refine AC ?_|refine AD ?_|refine AE ?_|refine AF rfl rfl ?_|refine AG rfl rfl ?_|refine AH ?_|refine AI ?_|refine AJ ?_|refine AK ?_|refine AL ?_|refine AM ?_|refine AN ?_|refine AO ?_|refine AP ?_|refine AQ rfl ?_|refine AR ?_|refine AS ?_|refine AT rfl ?_|refine AU rfl ?_
          have bAz := bA6.up kz
          refine wd_alloc_s (by (try simp only [List.nil_append, List.cons_append]);repeat first|exact chk_nil|(apply chk_at;(focus exact rfl);first|exact pa_skp|(refine pa_mov ?_;first|exact (f0 rfl rfl)|exact (f1 kz rfl)|exact (v_bxn bAz rfl (Nat.le_refl _))|exact rfl))) ?_
          simp only [setS]
          have bRz := bR6.up kz
          have Kz := K6.and kz
          have l6 := bA6.lt
          have l7 := bR6.lt
          generalize h6.push (.rw [.int .i64 0, .int .i64 0]) = h7 at *
          repeat first|(refine BG ?_;first|(refine BH ?_;first|(refine BI ?_;refine BM ?_)|(refine BJ ?_;first|refine BN ?_|refine BO ?_)|refine BP ?_)|(refine BK ?_;first|refine BS rfl rfl ?_|refine BT rfl rfl ?_|refine BU rfl ?_)|(refine BL ?_;first|refine BQ ?_)|(refine BR ?_;try simp only [setS]))|(refine BX ?_;first|refine BY rfl ?_|(refine BZ ?_;refine CA ?_)|refine CC ?_|(refine CD ?_;try simp only [setS]))|refine AA ?_|refine AC ?_|refine AD ?_|refine AE ?_|refine AF rfl rfl ?_|refine AG rfl rfl ?_|refine AH ?_|refine AI ?_|refine AJ ?_|refine AK ?_|refine AL ?_|refine AM ?_|refine AN ?_|refine AO ?_|refine AP ?_|refine AQ rfl ?_|refine AR ?_|refine AS ?_|refine AT rfl ?_|refine AU rfl ?_
          refine wd_calls_e rfl ((rop_ok hE T.r (a := acc) (b := q) (k := 43) hacc hqi (.inl rfl)).mono fun x h8 ⟨k8, e8⟩ => ?_)
          subst e8
          rw [show opF 43 acc q = addF acc q from rfl]
          have bz8 := bz.up k8
          have bA8 := bAz.up k8
          have bR8 := bRz.up k8
          have K8 := Kz.and k8
          refine ⟨(by (try simp only [List.nil_append, List.cons_append]);repeat first|exact chk_nil|(apply chk_at;(focus exact rfl);first|exact pa_skp|exact (pa_alc bz8.get)|(refine pa_mov ?_;first|exact rfl))), ?_⟩
          have hadd := addF_i64 acc q
          have hbad := addF_bad (a := acc) (b := q)
          have hgs : goF 1 acc (q :: l.drop (i + 1)) = if (addF acc q).2 ≠ 0 then ((0, 0), (addF acc q).2) else goF 1 (addF acc q).1 (l.drop (i + 1)) := by
            show (if (stepF 1 acc q).2 ≠ 0 then ((0, 0), (stepF 1 acc q).2) else goF 1 (stepF 1 acc q).1 (l.drop (i + 1))) = _
            rw [hs]
          rw [hgs] at hgo
          generalize addF acc q = r at *
          obtain ⟨⟨x1, x2⟩, er⟩ := r
          repeat first|(refine BG ?_;first|(refine BH ?_;first|(refine BI ?_;refine BM ?_)|(refine BJ ?_;first|refine BN ?_|refine BO ?_)|refine BP ?_)|(refine BK ?_;first|refine BS rfl rfl ?_|refine BT rfl rfl ?_|refine BU rfl ?_)|(refine BL ?_;first|refine BQ ?_)|(refine BR ?_;try simp only [setS]))|(refine BX ?_;first|refine BY rfl ?_|(refine BZ ?_;refine CA ?_)|refine CC ?_|(refine CD ?_;try simp only [setS]))|refine AA ?_|refine AC ?_|refine AD ?_|refine AE ?_|refine AF rfl rfl ?_|refine AG rfl rfl ?_|refine AH ?_|refine AI ?_|refine AJ ?_|refine AK ?_|refine AL ?_|refine AM ?_|refine AN ?_|refine AO ?_|refine AP ?_|refine AQ rfl ?_|refine AR ?_|refine AS ?_|refine AT rfl ?_|refine AU rfl ?_
          refine wd_ef (ef_bxn bz8 rfl rfl rfl rfl (Nat.le_refl _)) (by (try simp only [List.nil_append, List.cons_append]);repeat first|exact chk_nil|(apply chk_at;(focus exact rfl);first|exact pa_skp|(refine pa_mov ?_;first|exact rfl))) ?_
          refine wd_heap (h' := h8.put h6.n (.rw [.int .i64 x1, .int .i64 x2])) rfl ?_
          have bz9 : Bx (h8.put h6.n (.rw [.int .i64 x1, .int .i64 x2])) h6.n [.int .i64 x1, .int .i64 x2] := bz8.put
          have bA9 : Bx (h8.put h6.n (.rw [.int .i64 x1, .int .i64 x2])) h2.n [.int .i64 acc.1, .int .i64 acc.2] := bA8.put_ne (by omega)
          have bR9 : Bx (h8.put h6.n (.rw [.int .i64 x1, .int .i64 x2])) h.n [.int .i64 0, .int .i64 0] := bR8.put_ne (by omega)
          have hn36 := K6.n
          have K9 : Keep (OneB h2.n) h3 (h8.put h6.n (.rw [.int .i64 x1, .int .i64 x2])) := K8.on (Keep.put _ _ _ (S := OneB h6.n) rfl) (fun k q => .inl (by have q : k = h6.n := q; omega))
          generalize h8.put h6.n (.rw [.int .i64 x1, .int .i64 x2]) = h9 at *
          by_cases her : er = 0
          · subst her
            rw [if_neg (by simp)] at hgo
            have bA10 := bA9.put (r := [.int .i64 x1, .int .i64 x2])
            have K10 : Keep (OneB h2.n) h3 (h9.put h2.n (.rw [.int .i64 x1, .int .i64 x2])) := K9.trans (Keep.put _ _ _ (S := OneB h2.n) rfl) (fun _ _ q => q)
            have bR10 : Bx (h9.put h2.n (.rw [.int .i64 x1, .int .i64 x2])) h.n [.int .i64 0, .int .i64 0] := bR9.put_ne hne
            repeat first|(refine BG ?_;first|(refine BH ?_;first|(refine BI ?_;refine BM ?_)|(refine BJ ?_;first|refine BN ?_|refine BO ?_)|refine BV (v_bxn bz9 rfl (Nat.le_refl _)) ?_|refine BP ?_)|(refine BK ?_;first|refine BS rfl rfl ?_|refine BT rfl rfl ?_|refine BU rfl ?_)|(refine BL ?_;first|refine BW (ef_bxn bA9 rfl rfl rfl rfl (Nat.le_refl _)) ?_|refine BQ ?_)|(refine BR ?_;try simp only [setS]))|(refine BX ?_;first|refine BY rfl ?_|(refine BZ ?_;refine CA ?_)|refine CB (v_bxn bz9 rfl (Nat.le_refl _)) ?_|refine CC ?_|(refine CD ?_;try simp only [setS]))|refine AA ?_|refine AC ?_|refine AD ?_|refine AE ?_|refine AF rfl rfl ?_|refine AG rfl rfl ?_|refine AH ?_|refine AI ?_|refine AJ ?_|refine AK ?_|refine AL ?_|refine AM ?_|refine AN ?_|refine AO ?_|refine AP ?_|refine AQ rfl ?_|refine AR ?_|refine AS ?_|refine AT rfl ?_|refine AU rfl ?_
            rw [show (((i + 1 : Nat) : Int) + 1) = ((i + 1 + 1 : Nat) : Int) by omega]
            exact round_norm (n - 1) (by omega) ⟨i + 1, (x1, x2), _, _, _, _, _, _, _, _, _, _, by omega, by omega, hgo, hadd, K10, bR10, bA10, rfl⟩
          · rw [if_pos (by simpa using her)] at hgo
            rw [hgo]
            have hne0 : (er != 0) = true := by simp [her]
            simp only [ne_eq, her, not_false_eq_true, if_true]
            repeat first|(refine BG ?_;first|(refine BH ?_;first|(refine BI ?_;refine BM ?_)|(refine BJ ?_;first|refine BN ?_|refine BO ?_)|refine BV (v_neq_t rfl rfl her) ?_|refine BP ?_)|(refine BK ?_;first|refine BS rfl rfl ?_|refine BT rfl rfl ?_|refine BU rfl ?_)|(refine BL ?_;first|refine BW (ef_bxn bR9 rfl rfl rfl rfl (Nat.le_refl _)) ?_|refine BQ ?_)|(refine BR ?_;try simp only [setS]))|(refine BX ?_;first|refine BY rfl ?_|(refine BZ ?_;refine CA ?_)|refine CB (v_neq_t rfl rfl her) ?_|refine CC ?_|(refine CD ?_;try simp only [setS]))|refine AA ?_|refine AC ?_|refine AD ?_|refine AE ?_|refine AF rfl rfl ?_|refine AG rfl rfl ?_|refine AH ?_|refine AI ?_|refine AJ ?_|refine AK ?_|refine AL ?_|refine AM ?_|refine AN ?_|refine AO ?_|refine AP ?_|refine AQ rfl ?_|refine AR ?_|refine AS ?_|refine AT rfl ?_|refine AU rfl ?_
            refine mid_ret ?_
            repeat first|(refine BG ?_;first|(refine BH ?_;first|(refine BI ?_;refine BM ?_)|(refine BJ ?_;first|refine BN ?_|refine BO ?_)|refine BP ?_)|(refine BK ?_;first|refine BS rfl rfl ?_|refine BT rfl rfl ?_|refine BU rfl ?_)|(refine BL ?_;first|refine BQ ?_)|(refine BR ?_;try simp only [setS]))|refine AA ?_|refine AC ?_|refine AD ?_|refine AE ?_|refine AF rfl rfl ?_|refine AG rfl rfl ?_|refine AH ?_|refine AI ?_|refine AJ ?_|refine AK ?_|refine AL ?_|refine AM ?_|refine AN ?_|refine AO ?_|refine AP ?_|refine AQ rfl ?_|refine AR ?_|refine AS ?_|refine AT rfl ?_|refine AU rfl ?_
            exact fin_q (q := (0, 0)) (er := er) bR9.put rfl rfl ⟨fin0 (K3.own K9 (fun k q => by have q : k = h2.n := q; omega)) (q := (0, 0)), rfl⟩
        · have hst : (stepF 2 acc q).2 = 0 := rfl
          rw [goF_cons hst] at hgo
          have e1 : (stepF 2 acc q).1 = if cmpF q acc < 0 then q else acc := rfl
          rw [e1] at hgo
          generalize cmpF q acc = cv at *
          by_cases hc : cv < 0
          · rw [if_pos hc] at hgo
            repeat first|(refine BG ?_;first|(refine BH ?_;first|(refine BI ?_;refine BM ?_)|(refine BJ ?_;first|refine BN ?_|refine BO ?_)|refine BP ?_)|(refine BK ?_;first|refine BS rfl rfl ?_|refine BT rfl rfl ?_|refine BU rfl ?_)|(refine BL ?_;first|refine BQ ?_)|(refine BR ?_;try simp only [setS]))|refine AA ?_|refine AC ?_|refine AD ?_|refine AE ?_|refine AF rfl rfl ?_|refine AG rfl rfl ?_|refine AH ?_|refine AI ?_|refine AJ ?_|refine AK ?_|refine AL ?_|refine AM ?_|refine AN ?_|refine AO ?_|refine AP ?_|refine AQ rfl ?_|refine AR ?_|refine AS ?_|refine AT rfl ?_|refine AU rfl ?_
            repeat first|(refine BG ?_;first|(refine BH ?_;first|(refine BI ?_;refine BM ?_)|(refine BJ ?_;first|refine BN ?_|refine BO ?_)|refine BV (f0 rfl rfl) ?_|refine BV (f1 kr6 rfl) ?_|refine BP ?_)|(refine BK ?_;first|refine BS rfl rfl ?_|refine BT rfl rfl ?_|refine BU rfl ?_)|(refine BL ?_;first|refine BW (ef_bxn bA6 rfl rfl rfl rfl (Nat.le_refl _)) ?_|refine BQ ?_)|(refine BR ?_;try simp only [setS]))|(refine BX ?_;first|refine BY rfl ?_|(refine BZ ?_;refine CA ?_)|refine CB (f0 rfl rfl) ?_|refine CB (f1 kr6 rfl) ?_|refine CC ?_|(refine CD ?_;try simp only [setS]))|refine AA ?_|refine AC ?_|refine AD ?_|refine AE ?_|refine AF rfl rfl ?_|refine AG rfl rfl ?_|refine AH ?_|refine AI ?_|refine AJ ?_|refine AK ?_|refine AL ?_|refine AM ?_|refine AN ?_|refine AO ?_|refine AP ?_|refine AQ rfl ?_|refine AR ?_|refine AS ?_|refine AT rfl ?_|refine AU rfl ?_
            rw [show (((i + 1 : Nat) : Int) + 1) = ((i + 1 + 1 : Nat) : Int) by omega]
            exact round_norm (n - 1) (by omega) ⟨i + 1, q, _, _, _, _, _, _, _, _, _, _, by omega, by omega, hgo, hqi, put6 (r := q), bRp (r := q), bA6.put, rfl⟩
          · rw [if_neg hc] at hgo
            repeat first|(refine BG ?_;first|(refine BH ?_;first|(refine BI ?_;refine BM ?_)|(refine BJ ?_;first|refine BN ?_|refine BO ?_)|refine BV (f0 rfl rfl) ?_|refine BV (f1 kr6 rfl) ?_|refine BP ?_)|(refine BK ?_;first|refine BS rfl rfl ?_|refine BT rfl rfl ?_|refine BU rfl ?_)|(refine BL ?_;first|refine BW (ef_bxn bA6 rfl rfl rfl rfl (Nat.le_refl _)) ?_|refine BQ ?_)|(refine BR ?_;try simp only [setS]))|(refine BX ?_;first|refine BY rfl ?_|(refine BZ ?_;refine CA ?_)|refine CB (f0 rfl rfl) ?_|refine CB (f1 kr6 rfl) ?_|refine CC ?_|(refine CD ?_;try simp only [setS]))|refine AA ?_|refine AC ?_|refine AD ?_|refine AE ?_|refine AF rfl rfl ?_|refine AG rfl rfl ?_|refine AH ?_|refine AI ?_|refine AJ ?_|refine AK ?_|refine AL ?_|refine AM ?_|refine AN ?_|refine AO ?_|refine AP ?_|refine AQ rfl ?_|refine AR ?_|refine AS ?_|refine AT rfl ?_|refine AU rfl ?_
            rw [show (((i + 1 : Nat) : Int) + 1) = ((i + 1 + 1 : Nat) : Int) by omega]
            exact round_norm (n - 1) (by omega) ⟨i + 1, acc, _, _, _, _, _, _, _, _, _, _, by omega, by omega, hgo, hacc, K6, bR6, bA6, rfl⟩
        · have hst : (stepF 3 acc q).2 = 0 := rfl
          rw [goF_cons hst] at hgo
          have e1 : (stepF 3 acc q).1 = if 0 < cmpF q acc then q else acc := rfl
          rw [e1] at hgo
          generalize cmpF q acc = cv at *
          by_cases hc : 0 < cv
          · rw [if_pos hc] at hgo
            repeat first|(refine BG ?_;first|(refine BH ?_;first|(refine BI ?_;refine BM ?_)|(refine BJ ?_;first|refine BN ?_|refine BO ?_)|refine BV (f0 rfl rfl) ?_|refine BV (f1 kr6 rfl) ?_|refine BP ?_)|(refine BK ?_;first|refine BS rfl rfl ?_|refine BT rfl rfl ?_|refine BU rfl ?_)|(refine BL ?_;first|refine BW (ef_bxn bA6 rfl rfl rfl rfl (Nat.le_refl _)) ?_|refine BQ ?_)|(refine BR ?_;try simp only [setS]))|(refine BX ?_;first|refine BY rfl ?_|(refine BZ ?_;refine CA ?_)|refine CB (f0 rfl rfl) ?_|refine CB (f1 kr6 rfl) ?_|refine CC ?_|(refine CD ?_;try simp only [setS]))|refine AA ?_|refine AC ?_|refine AD ?_|refine AE ?_|refine AF rfl rfl ?_|refine AG rfl rfl ?_|refine AH ?_|refine AI ?_|refine AJ ?_|refine AK ?_|refine AL ?_|refine AM ?_|refine AN ?_|refine AO ?_|refine AP ?_|refine AQ rfl ?_|refine AR ?_|refine AS ?_|refine AT rfl ?_|refine AU rfl ?_
            rw [show (((i + 1 : Nat) : Int) + 1) = ((i + 1 + 1 : Nat) : Int) by omega]
            exact round_norm (n - 1) (by omega) ⟨i + 1, q, _, _, _, _, _, _, _, _, _, _, by omega, by omega, hgo, hqi, put6 (r := q), bRp (r := q), bA6.put, rfl⟩
          · rw [if_neg hc] at hgo
            repeat first|(refine BG ?_;first|(refine BH ?_;first|(refine BI ?_;refine BM ?_)|(refine BJ ?_;first|refine BN ?_|refine BO ?_)|refine BV (f0 rfl rfl) ?_|refine BV (f1 kr6 rfl) ?_|refine BP ?_)|(refine BK ?_;first|refine BS rfl rfl ?_|refine BT rfl rfl ?_|refine BU rfl ?_)|(refine BL ?_;first|refine BW (ef_bxn bA6 rfl rfl rfl rfl (Nat.le_refl _)) ?_|refine BQ ?_)|(refine BR ?_;try simp only [setS]))|(refine BX ?_;first|refine BY rfl ?_|(refine BZ ?_;refine CA ?_)|refine CB (f0 rfl rfl) ?_|refine CB (f1 kr6 rfl) ?_|refine CC ?_|(refine CD ?_;try simp only [setS]))|refine AA ?_|refine AC ?_|refine AD ?_|refine AE ?_|refine AF rfl rfl ?_|refine AG rfl rfl ?_|refine AH ?_|refine AI ?_|refine AJ ?_|refine AK ?_|refine AL ?_|refine AM ?_|refine AN ?_|refine AO ?_|refine AP ?_|refine AQ rfl ?_|refine AR ?_|refine AS ?_|refine AT rfl ?_|refine AU rfl ?_
            rw [show (((i + 1 : Nat) : Int) + 1) = ((i + 1 + 1 : Nat) : Int) by omega]
            exact round_norm (n - 1) (by omega) ⟨i + 1, acc, _, _, _, _, _, _, _, _, _, _, by omega, by omega, hgo, hacc, K6, bR6, bA6, rfl⟩
        · have hs : stepF 4 acc q = addF acc q := rfl
          have kz : Keep NoB h6 (h6.push (.rw [.int .i64 0, .int .i64 0])) := Keep.push _ _ _
          have bz : Bx (h6.push (.rw [.int .i64 0, .int .i64 0])) h6.n [.int .i64 0, .int .i64 0] := bx_push
          have kr6 := Keep.refl (NoB) (h6 : Hp X)
          repeat first|(refine BG ?_;first|(refine BH ?_;first|(refine BI ?_;refine BM ?_)|(refine BJ ?_;first|refine BN ?_|refine BO ?_)|refine BP ?_)|(refine BK ?_;first|refine BS rfl rfl ?_|refine BT rfl rfl ?_|refine BU rfl ?_)|(refine BL ?_;first|refine BQ ?_)|(refine BR ?_;try simp only [setS]))|refine AA ?_|refine AC ?_|refine AD ?_|refine AF rfl rfl ?_|refine AG rfl rfl ?_|refine AH ?_|refine AI ?_|refine AJ ?_|refine AK ?_|refine AL ?_|refine AM ?_|refine AN ?_|refine AO ?_|refine AP ?_|refine AQ rfl ?_|refine AR ?_|refine AS ?_|refine AT rfl ?_|refine AU rfl ?_
          repeat first|(refine BG ?_;first|(refine BH ?_;first|(refine BI ?_;refine BM ?_)|(refine BJ ?_;first|refine BN ?_|refine BO ?_)|refine BV (f0 rfl rfl) ?_|refine BV (f1 kr6 rfl) ?_|refine BV (v_bxn bA6 rfl (Nat.le_refl _)) ?_|refine BP ?_)|(refine BK ?_;first|refine BS rfl rfl ?_|refine BT rfl rfl ?_|refine BU rfl ?_)|(refine BL ?_;first|refine BQ ?_)|(refine BR ?_;try simp only [setS]))|(refine BX ?_;first|refine BY rfl ?_|(refine BZ ?_;refine CA ?_)|refine CB (f0 rfl rfl) ?_|refine CB (f1 kr6 rfl) ?_|refine CB (v_bxn bA6 rfl (Nat.le_refl _)) ?_|refine CC ?_|(refine CD ?_;try simp only [setS]))|refine AA ?_|refine AC ?_|refine AD ?_|refine AE ?_|refine AF rfl rfl ?_|refine AG rfl rfl ?_|refine AH ?_|refine AI ?_|refine AJ ?_|refine AK ?_|refine AL ?_|refine AM ?_|refine AN ?_|refine AO ?_|refine AP ?_|refine AQ rfl ?_|refine AR ?_|refine AS ?_|refine AT rfl ?_|refine AU rfl ?_
          have bAz := bA6.up kz
          refine wd_alloc_s (by (try simp only [List.nil_append, List.cons_append]);repeat first|exact chk_nil|(apply chk_at;(focus exact rfl);first|exact pa_skp|(refine pa_mov ?_;first|exact (f0 rfl rfl)|exact (f1 kz rfl)|exact (v_bxn bAz rfl (Nat.le_refl _))|exact rfl))) ?_
          simp only [setS]
          have bRz := bR6.up kz
          have Kz := K6.and kz
          have l6 := bA6.lt
          have l7 := bR6.lt
          generalize h6.push (.rw [.int .i64 0, .int .i64 0]) = h7 at *
          repeat first|(refine BG ?_;first|(refine BH ?_;first|(refine BI ?_;refine BM ?_)|(refine BJ ?_;first|refine BN ?_|refine BO ?_)|refine BP ?_)|(refine BK ?_;first|refine BS rfl rfl ?_|refine BT rfl rfl ?_|refine BU rfl ?_)|(refine BL ?_;first|refine BQ ?_)|(refine BR ?_;try simp only [setS]))|(refine BX ?_;first|refine BY rfl ?_|(refine BZ ?_;refine CA ?_)|refine CC ?_|(refine CD ?_;try simp only [setS]))|refine AA ?_|refine AC ?_|refine AD ?_|refine AE ?_|refine AF rfl rfl ?_|refine AG rfl rfl ?_|refine AH ?_|refine AI ?_|refine AJ ?_|refine AK ?_|refine AL ?_|refine AM ?_|refine AN ?_|refine AO ?_|refine AP ?_|refine AQ rfl ?_|refine AR ?_|refine AS ?_|refine AT rfl ?_|refine AU rfl ?_
          refine wd_calls_e rfl ((rop_ok hE T.r (a := acc) (b := q) (k := 43) hacc hqi (.inl rfl)).mono fun x h8 ⟨k8, e8⟩ => ?_)
          subst e8
          rw [show opF 43 acc q = addF acc q from rfl]
          have bz8 := bz.up k8
          have bA8 := bAz.up k8
          have bR8 := bRz.up k8
          have K8 := Kz.and k8
          refine ⟨(by (try simp only [List.nil_append, List.cons_append]);repeat first|exact chk_nil|(apply chk_at;(focus exact rfl);first|exact pa_skp|exact (pa_alc bz8.get)|(refine pa_mov ?_;first|exact rfl))), ?_⟩
          have hadd := addF_i64 acc q
          have hbad := addF_bad (a := acc) (b := q)
          have hgs : goF 4 acc (q :: l.drop (i + 1)) = if (addF acc q).2 ≠ 0 then ((0, 0), (addF acc q).2) else goF 4 (addF acc q).1 (l.drop (i + 1)) := by
            show (if (stepF 4 acc q).2 ≠ 0 then ((0, 0), (stepF 4 acc q).2) else goF 4 (stepF 4 acc q).1 (l.drop (i + 1))) = _
            rw [hs]
          rw [hgs] at hgo
          generalize addF acc q = r at *
          obtain ⟨⟨x1, x2⟩, er⟩ := r
          repeat first|(refine BG ?_;first|(refine BH ?_;first|(refine BI ?_;refine BM ?_)|(refine BJ ?_;first|refine BN ?_|refine BO ?_)|refine BP ?_)|(refine BK ?_;first|refine BS rfl rfl ?_|refine BT rfl rfl ?_|refine BU rfl ?_)|(refine BL ?_;first|refine BQ ?_)|(refine BR ?_;try simp only [setS]))|(refine BX ?_;first|refine BY rfl ?_|(refine BZ ?_;refine CA ?_)|refine CC ?_|(refine CD ?_;try simp only [setS]))|refine AA ?_|refine AC ?_|refine AD ?_|refine AE ?_|refine AF rfl rfl ?_|refine AG rfl rfl ?_|refine AH ?_|refine AI ?_|refine AJ ?_|refine AK ?_|refine AL ?_|refine AM ?_|refine AN ?_|refine AO ?_|refine AP ?_|refine AQ rfl ?_|refine AR ?_|refine AS ?_|refine AT rfl ?_|refine AU rfl ?_
          refine wd_ef (ef_bxn bz8 rfl rfl rfl rfl (Nat.le_refl _)) (by (try simp only [List.nil_append, List.cons_append]);repeat first|exact chk_nil|(apply chk_at;(focus exact rfl);first|exact pa_skp|(refine pa_mov ?_;first|exact rfl))) ?_
          refine wd_heap (h' := h8.put h6.n (.rw [.int .i64 x1, .int .i64 x2])) rfl ?_
          have bz9 : Bx (h8.put h6.n (.rw [.int .i64 x1, .int .i64 x2])) h6.n [.int .i64 x1, .int .i64 x2] := bz8.put
          have bA9 : Bx (h8.put h6.n (.rw [.int .i64 x1, .int .i64 x2])) h2.n [.int .i64 acc.1, .int .i64 acc.2] := bA8.put_ne (by omega)
          have bR9 : Bx (h8.put h6.n (.rw [.int .i64 x1, .int .i64 x2])) h.n [.int .i64 0, .int .i64 0] := bR8.put_ne (by omega)
          have hn36 := K6.n
          have K9 : Keep (OneB h2.n) h3 (h8.put h6.n (.rw [.int .i64 x1, .int .i64 x2])) := K8.on (Keep.put _ _ _ (S := OneB h6.n) rfl) (fun k q => .inl (by have q : k = h6.n := q; omega))
          generalize h8.put h6.n (.rw [.int .i64 x1, .int .i64 x2]) = h9 at *
          by_cases her : er = 0
          · subst her
            rw [if_neg (by simp)] at hgo
            have bA10 := bA9.put (r := [.int .i64 x1, .int .i64 x2])
            have K10 : Keep (OneB h2.n) h3 (h9.put h2.n (.rw [.int .i64 x1, .int .i64 x2])) := K9.trans (Keep.put _ _ _ (S := OneB h2.n) rfl) (fun _ _ q => q)
            have bR10 : Bx (h9.put h2.n (.rw [.int .i64 x1, .int .i64 x2])) h.n [.int .i64 0, .int .i64 0] := bR9.put_ne hne
            repeat first|(refine BG ?_;first|(refine BH ?_;first|(refine BI ?_;refine BM ?_)|(refine BJ ?_;first|refine BN ?_|refine BO ?_)|refine BV (v_bxn bz9 rfl (Nat.le_refl _)) ?_|refine BP ?_)|(refine BK ?_;first|refine BS rfl rfl ?_|refine BT rfl rfl ?_|refine BU rfl ?_)|(refine BL ?_;first|refine BW (ef_bxn bA9 rfl rfl rfl rfl (Nat.le_refl _)) ?_|refine BQ ?_)|(refine BR ?_;try simp only [setS]))|(refine BX ?_;first|refine BY rfl ?_|(refine BZ ?_;refine CA ?_)|refine CB (v_bxn bz9 rfl (Nat.le_refl _)) ?_|refine CC ?_|(refine CD ?_;try simp only [setS]))|refine AA ?_|refine AC ?_|refine AD ?_|refine AE ?_|refine AF rfl rfl ?_|refine AG rfl rfl ?_|refine AH ?_|refine AI ?_|refine AJ ?_|refine AK ?_|refine AL ?_|refine AM ?_|refine AN ?_|refine AO ?_|refine AP ?_|refine AQ rfl ?_|refine AR ?_|refine AS ?_|refine AT rfl ?_|refine AU rfl ?_
            rw [show (((i + 1 : Nat) : Int) + 1) = ((i + 1 + 1 : Nat) : Int) by omega]
            exact round_norm (n - 1) (by omega) ⟨i + 1, (x1, x2), _, _, _, _, _, _, _, _, _, _, by omega, by omega, hgo, hadd, K10, bR10, bA10, rfl⟩
          · rw [if_pos (by simpa using her)] at hgo
            rw [hgo]
            have hne0 : (er != 0) = true := by simp [her]
            simp only [ne_eq, her, not_false_eq_true, if_true]
            repeat first|(refine BG ?_;first|(refine BH ?_;first|(refine BI ?_;refine BM ?_)|(refine BJ ?_;first|refine BN ?_|refine BO ?_)|refine BV (v_neq_t rfl rfl her) ?_|refine BP ?_)|(refine BK ?_;first|refine BS rfl rfl ?_|refine BT rfl rfl ?_|refine BU rfl ?_)|(refine BL ?_;first|refine BW (ef_bxn bR9 rfl rfl rfl rfl (Nat.le_refl _)) ?_|refine BQ ?_)|(refine BR ?_;try simp only [setS]))|(refine BX ?_;first|refine BY rfl ?_|(refine BZ ?_;refine CA ?_)|refine CB (v_neq_t rfl rfl her) ?_|refine CC ?_|(refine CD ?_;try simp only [setS]))|refine AA ?_|refine AC ?_|refine AD ?_|refine AE ?_|refine AF rfl rfl ?_|refine AG rfl rfl ?_|refine AH ?_|refine AI ?_|refine AJ ?_|refine AK ?_|refine AL ?_|refine AM ?_|refine AN ?_|refine AO ?_|refine AP ?_|refine AQ rfl ?_|refine AR ?_|refine AS ?_|refine AT rfl ?_|refine AU rfl ?_
            refine mid_ret ?_
            repeat first|(refine BG ?_;first|(refine BH ?_;first|(refine BI ?_;refine BM ?_)|(refine BJ ?_;first|refine BN ?_|refine BO ?_)|refine BP ?_)|(refine BK ?_;first|refine BS rfl rfl ?_|refine BT rfl rfl ?_|refine BU rfl ?_)|(refine BL ?_;first|refine BQ ?_)|(refine BR ?_;try simp only [setS]))|refine AA ?_|refine AC ?_|refine AD ?_|refine AE ?_|refine AF rfl rfl ?_|refine AG rfl rfl ?_|refine AH ?_|refine AI ?_|refine AJ ?_|refine AK ?_|refine AL ?_|refine AM ?_|refine AN ?_|refine AO ?_|refine AP ?_|refine AQ rfl ?_|refine AR ?_|refine AS ?_|refine AT rfl ?_|refine AU rfl ?_
            exact fin_q (q := (0, 0)) (er := er) bR9.put rfl rfl ⟨fin0 (K3.own K9 (fun k q => by have q : k = h2.n := q; omega)) (q := (0, 0)), rfl⟩
      · obtain rfl : i = l.length := by omega
        rw [List.drop_length] at hgo
        repeat first|(refine BG ?_;first|(refine BH ?_;first|(refine BI ?_;refine BM ?_)|(refine BJ ?_;first|refine BN ?_|refine BO ?_)|refine BV (lenx rfl) ?_|refine BP ?_)|(refine BK ?_;first|refine BS rfl rfl ?_|refine BT rfl rfl ?_|refine BU rfl ?_)|(refine BL ?_;first|refine BQ ?_)|(refine BR ?_;try simp only [setS]))|refine AA ?_|refine AC ?_|refine AD ?_|refine AE ?_|refine AF rfl rfl ?_|refine AG rfl rfl ?_|refine AH ?_|refine AI ?_|refine AJ ?_|refine AK ?_|refine AL ?_|refine AM ?_|refine AN ?_|refine AO ?_|refine AP ?_|refine AQ rfl ?_|refine AR ?_|refine AS ?_|refine AT rfl ?_|refine AU rfl ?_
        exact mid_norm ⟨acc, _, _, _, _, _, _, _, _, _, _, hgo, hacc, K3.own K (fun k q => by have q : k = h2.n := q; omega), bR, bA, av, rfl⟩
    rintro t' h4 ⟨acc, s7, s8, s9, s17, s18, s19, s20, s21, s22, s23, hgo, hacc, K4, bR, bA, av, rfl⟩
    rw [hgo]
    simp only [ne_eq, not_true_eq_false, if_false, if_neg n5]
    have lenx : ∀ {e : En} {t : List AV} {x : Od}, x.ev e t = v → (Mv.lenv x).ev e t h4 = some (.int .i64 ((l.length + 1 : Nat) : Int)) := fun hx => by rw [av.lenv hx, hll]
    by_cases h4' : how = 4
    · rw [if_pos h4']
      subst h4'
      repeat first|(refine BG ?_;first|(refine BH ?_;first|(refine BI ?_;refine BM ?_)|(refine BJ ?_;first|refine BN ?_|refine BO ?_)|refine BV (v_bxn bA rfl (Nat.le_refl _)) ?_|refine BV (lenx rfl) ?_|refine BV (v_bld01 rfl) ?_|refine BP ?_)|(refine BK ?_;first|refine BS rfl rfl ?_|refine BT rfl rfl ?_|refine BU rfl ?_)|(refine BL ?_;first|refine BQ ?_)|(refine BR ?_;try simp only [setS]))|refine AA ?_|refine AC ?_|refine AD ?_|refine AE ?_|refine AF rfl rfl ?_|refine AG rfl rfl ?_|refine AH ?_|refine AI ?_|refine AJ ?_|refine AK ?_|refine AL ?_|refine AM ?_|refine AN ?_|refine AO ?_|refine AP ?_|refine AQ rfl ?_|refine AR ?_|refine AS ?_|refine AT rfl ?_|refine AU rfl ?_
      refine wr_call_e rfl ((rop_ok hE T.r (a := acc) (b := (((l.length + 1 : Nat) : Int), 1)) (k := 47) hacc ⟨⟨by simp only; omega, by simp only; omega⟩, ⟨(by decide : (-9223372036854775808 : Int) ≤ 1), (by decide : (1 : Int) ≤ 9223372036854775807)⟩⟩ (.inr (.inr (.inr rfl)))).mono fun x h6 ⟨k6, e6⟩ => ?_)
      subst e6
      rw [show opF 47 acc (((l.length + 1 : Nat) : Int), 1) = divF acc (((l.length + 1 : Nat) : Int), 1) from rfl]
      have b6 := bR.up k6
      generalize divF acc (((l.length + 1 : Nat) : Int), 1) = r at *
      obtain ⟨⟨x1, x2⟩, er⟩ := r
      repeat first|(refine BG ?_;first|(refine BH ?_;first|(refine BI ?_;refine BM ?_)|(refine BJ ?_;first|refine BN ?_|refine BO ?_)|refine BP ?_)|(refine BK ?_;first|refine BS rfl rfl ?_|refine BT rfl rfl ?_|refine BU rfl ?_)|(refine BL ?_;first|refine BW (ef_bxn b6 rfl rfl rfl rfl (Nat.le_refl _)) ?_|refine BQ ?_)|(refine BR ?_;try simp only [setS]))|refine AA ?_|refine AC ?_|refine AD ?_|refine AE ?_|refine AF rfl rfl ?_|refine AG rfl rfl ?_|refine AH ?_|refine AI ?_|refine AJ ?_|refine AK ?_|refine AL ?_|refine AM ?_|refine AN ?_|refine AO ?_|refine AP ?_|refine AQ rfl ?_|refine AR ?_|refine AS ?_|refine AT rfl ?_|refine AU rfl ?_
      exact fin_q (q := (x1, x2)) (er := er) b6.put rfl rfl ⟨fin0 (K4.and k6) (q := (x1, x2)), rfl⟩
    · rw [if_neg h4']
      repeat first|(refine BG ?_;first|(refine BH ?_;first|(refine BI ?_;refine BM ?_)|(refine BJ ?_;first|refine BN ?_|refine BO ?_)|refine BV (v_bxn bA rfl (Nat.le_refl _)) ?_|refine BP ?_)|(refine BK ?_;first|refine BS rfl rfl ?_|refine BT rfl rfl ?_|refine BU rfl ?_)|(refine BL ?_;first|refine BW (ef_bxn bR rfl rfl rfl rfl (Nat.le_refl _)) ?_|refine BQ ?_)|(refine BR ?_;try simp only [setS]))|refine AA ?_|refine AC ?_|refine AD ?_|refine AE ?_|refine AF rfl rfl ?_|refine AG rfl rfl ?_|refine AH ?_|refine AI ?_|refine AJ ?_|refine AK ?_|refine AL ?_|refine AM ?_|refine AN ?_|refine AO ?_|refine AP ?_|refine AQ rfl ?_|refine AR ?_|refine AS ?_|refine AT rfl ?_|refine AU rfl ?_
      exact fin_q (q := acc) (er := 0) bR.put rfl rfl ⟨fin0 K4 (q := acc), rfl⟩
end
end Am
end Go.Proofs.Ytkgplkddpigagaa
