/- Package fold: Do. -/
import Derived.Test.YtkgplkddpigagaaQaE
set_option linter.unusedVariables false
set_option linter.unusedSimpArgs false
namespace Go.Proofs.Ytkgplkddpigagaa
namespace Am
open Go.RowKit
set_option maxRecDepth 100000
def b_foldDo : BF := ⟨74, [0, 1, 4, 5, 6, 7, 9, 10, 11, 12, 24, 32, 33, 34, 35, 46, 56, 61, 65], (.seq (.reg [.mk none (.slot 2) (.eff (.alloc [(.int .i64 0), (.int .i64 0)])), .mk none (.slot 3) (.mov (.mv (.const (.int .i64 0))))]) (.seq (.seq (.reg [.mk none (.env 13) (.mov (.mv (.slot 0))), .mk none (.env 14) (.call 22 [(.env 13)]), .mk none (.env 15) (.mov (.notb (.env 14))), .mk none (.env 16) (.mov (.mv (.env 15))), .mk (some ((.env 16), false)) (.env 17) (.mov (.mv (.slot 1))), .mk (some ((.env 16), false)) (.env 18) (.mov (.lenv (.env 17))), .mk (some ((.env 16), false)) (.env 19) (.mov (.bin .eql .no (.env 18) (.const (.int .i64 0)))), .mk none (.env 20) (.mov (.pick (.env 16) (.const (.bool true)) (.env 19))), .mk none (.env 21) (.mov (.mv (.env 20))), .mk (some ((.env 21), false)) (.env 22) (.mov (.mv (.slot 1))), .mk (some ((.env 21), false)) (.env 23) (.call 40 [(.env 22), (.const (.func 41 []))]), .mk none (.slot 10) (.mov (.pick (.env 21) (.const (.bool true)) (.env 23)))]) (.cond (.slot 10) (.seq (.reg [.mk none (.env 25) (.mov (.bld [(.int .i64 0), (.int .i64 0)] [])), .mk none .none (.eff (.store 2 (.slot 2) (.env 25))), .mk none (.slot 3) (.mov (.mv (.const (.int .i64 1))))]) .ret) .skip)) (.seq (.dreg [(.mk none (.env 26) (.mov (.mv (.slot 1))), []), (.mk none (.env 27) (.mov (.iaddr 2 (.env 26) (.const (.int .i64 0)))), []), (.mk none (.env 28) (.mov (.ldn 2 (.env 27))), []), (.mk none (.env 29) (.mov (.mv (.slot 0))), []), (.mk none (.slot 4) (.eff (.alloc [(.int .i64 0), (.int .i64 0)])), [0, 1, 2, 3]), (.mk none (.env 30) (.call 42 [(.env 29)]), [0, 1, 2, 4]), (.mk none .none (.eff (.store 2 (.slot 4) (.env 28))), []), (.mk none (.slot 5) (.mov (.mv (.env 30))), [])]) (.seq (.seq (.reg [.mk none (.env 31) (.mov (.mv (.slot 1))), .mk none (.slot 11) (.mov (.sl 2 (.env 31) (some (.const (.int .i64 1))) none none)), .mk none (.slot 12) (.mov (.lenv (.slot 11))), .mk none (.slot 13) (.mov (.mv (.const (.int .i64 0))))]) (.block 0 (.loop (.seq (.reg [.mk none (.slot 14) (.mov (.bin .lss .no (.slot 13) (.slot 12)))]) (.seq (.cond (.slot 14) .skip (.exit 0)) (.seq (.block 1 (.seq (.reg [.mk none (.env 36) (.mov (.iaddr 2 (.slot 11) (.slot 13))), .mk none (.env 37) (.mov (.ldn 2 (.env 36))), .mk none (.slot 6) (.eff (.alloc [(.int .i64 0), (.int .i64 0)])), .mk none .none (.eff (.store 2 (.slot 6) (.env 37)))]) (.seq (.reg [.mk none (.slot 7) (.mov (.mv (.const (.int .i64 0))))]) (.seq (.reg [.mk none (.env 39) (.mov (.mv (.slot 5))), .mk none (.env 40) (.mov (.ldn 2 (.slot 4))), .mk none (.env 41) (.mov (.ldn 2 (.slot 6))), .mk none (.env 42) (.calv (.env 39) [(.env 40), (.env 41)]), .mk none (.env 38) (.mov (.mv (.env 42))), .mk none (.env 43) (.mov (.ext 0 (.env 38))), .mk none (.env 44) (.mov (.ext 1 (.env 38))), .mk none .none (.eff (.store 2 (.slot 4) (.env 43))), .mk none (.slot 7) (.mov (.mv (.env 44)))]) (.seq (.reg [.mk none (.env 45) (.mov (.mv (.slot 7))), .mk none (.slot 15) (.mov (.bin .neq .no (.env 45) (.const (.int .i64 0))))]) (.cond (.slot 15) (.seq (.reg [.mk none (.env 47) (.mov (.bld [(.int .i64 0), (.int .i64 0)] [])), .mk none (.env 48) (.mov (.mv (.slot 7))), .mk none .none (.eff (.store 2 (.slot 2) (.env 47))), .mk none (.slot 3) (.mov (.mv (.env 48)))]) .ret) .skip)))))) (.reg [.mk none (.env 49) (.mov (.bin .add .no (.slot 13) (.const (.int .i64 1)))), .mk none (.slot 13) (.mov (.mv (.env 49)))]))))))) (.seq (.reg [.mk none (.env 51) (.mov (.mv (.slot 1))), .mk none (.env 52) (.mov (.lenv (.env 51))), .mk none (.env 53) (.call 43 [(.env 52)]), .mk none (.env 50) (.mov (.mv (.env 53))), .mk none (.env 54) (.mov (.ext 0 (.env 50))), .mk none (.env 55) (.mov (.ext 1 (.env 50))), .mk none (.slot 8) (.eff (.alloc [(.int .i64 0), (.int .i64 0)])), .mk none .none (.eff (.store 2 (.slot 8) (.env 54))), .mk none (.slot 9) (.mov (.mv (.env 55)))]) (.seq (.block 2 (.seq (.reg [.mk none (.env 57) (.mov (.mv (.slot 9))), .mk none (.env 58) (.mov (.bin .neq .no (.env 57) (.const (.int .i64 0)))), .mk none (.slot 16) (.mov (.mv (.env 58)))]) (.cond (.slot 16) (.seq (.reg [.mk none (.env 59) (.mov (.bld [(.int .i64 0), (.int .i64 0)] [])), .mk none (.env 60) (.mov (.mv (.slot 9))), .mk none .none (.eff (.store 2 (.slot 2) (.env 59))), .mk none (.slot 3) (.mov (.mv (.env 60)))]) .ret) (.seq (.reg [.mk none (.env 62) (.mov (.mv (.slot 0))), .mk none (.env 63) (.mov (.bin .eql .no (.env 62) (.const (.int .i64 5)))), .mk none (.slot 17) (.mov (.mv (.env 63)))]) (.cond (.slot 17) (.seq (.reg [.mk none (.env 64) (.mov (.ldn 2 (.slot 8))), .mk none .none (.eff (.store 2 (.slot 2) (.env 64))), .mk none (.slot 3) (.mov (.mv (.const (.int .i64 0))))]) .ret) (.seq (.reg [.mk none (.env 66) (.mov (.mv (.slot 0))), .mk none (.env 67) (.mov (.bin .eql .no (.env 66) (.const (.int .i64 4)))), .mk none (.slot 18) (.mov (.mv (.env 67)))]) (.cond (.slot 18) (.seq (.reg [.mk none (.env 68) (.mov (.ldn 2 (.slot 4))), .mk none (.env 69) (.mov (.ldn 2 (.slot 8))), .mk none (.env 70) (.call 44 [(.env 68), (.env 69)]), .mk none (.env 71) (.mov (.ext 0 (.env 70))), .mk none (.env 72) (.mov (.ext 1 (.env 70))), .mk none .none (.eff (.store 2 (.slot 2) (.env 71))), .mk none (.slot 3) (.mov (.mv (.env 72)))]) .ret) .skip))))))) (.seq (.reg [.mk none (.env 73) (.mov (.ldn 2 (.slot 4))), .mk none .none (.eff (.store 2 (.slot 2) (.env 73))), .mk none (.slot 3) (.mov (.mv (.const (.int .i64 0))))]) .ret))))))), [.celln 2 (.slot 2), .slot (.slot 3)]⟩
def goF (how : Int) : QQ → List QQ → QQ × Int
  | a, [] => (a, 0)
  | a, b :: l => if (stepF how a b).2 ≠ 0 then ((0, 0), (stepF how a b).2) else goF how (stepF how a b).1 l
theorem stepF_i64 {how : Int} {a b : QQ} (ha : I64Q a) (hb : I64Q b) : I64Q (stepF how a b).1 := by
  unfold stepF
  repeat' split
  all_goals first | exact ha | exact hb | exact addF_i64 _ _
def foldF1 (how : Int) (a : QQ) (l : List QQ) : QQ × Int :=
    if (decide (1 ≤ how) && decide (how ≤ 7)) = false ∨ (a :: l).all rightF = false then ((0, 0), 1)
    else if (goF how a l).2 ≠ 0 then ((0, 0), (goF how a l).2)
    else if (newF (l.length + 1 : Nat) 1).2 ≠ 0 then ((0, 0), (newF (l.length + 1 : Nat) 1).2)
    else if how = 5 then ((newF (l.length + 1 : Nat) 1).1, 0)
    else if how = 4 then divF (goF how a l).1 (newF (l.length + 1 : Nat) 1).1
    else ((goF how a l).1, 0)
def foldF (how : Int) : List QQ → QQ × Int
  | [] => ((0, 0), 1)
  | a :: l => foldF1 how a l
theorem all_right {l : List QQ} {b : Bool} (hb : b = true ↔ ∃ q ∈ l, rightF q = false) : l.all rightF = !b := by
  cases b with
  | true =>
    obtain ⟨q, hq, hr⟩ := hb.1 rfl
    rw [Bool.not_true]
    rw [List.all_eq_false]
    exact ⟨q, hq, by rw [hr]; decide⟩
  | false =>
    rw [Bool.not_false, List.all_eq_true]
    intro q hq
    rcases Bool.eq_false_or_eq_true (rightF q) with h | h
    · exact h
    · have := hb.2 ⟨q, hq, h⟩; cases this
section
variable {X : Type} {E : Nat → Option (Ent X)}
set_option maxHeartbeats 2000000 in
theorem fdo_ok (hE : ∀ f e, E f = some e → e.plain) (T : QaF E) (hf : E 27 = some (.bc b_foldDo)) {h : Hp X} {v : AV} {l : List QQ} (a : Rats h v l) (how : Int) : WF (lim E) 27 [.int .i64 how, v] h fun x h' => Keep NoB h h' ∧ x = qe (foldF how l) := by
  refine wf_bc hE hf rfl ?_
  simp only [b_foldDo, List.map, getS]
  have hlen := a.len
  have bx : Bx (h.push (.rw [.int .i64 0, .int .i64 0])) h.n [.int .i64 0, .int .i64 0] := bx_push
  have kp : Keep NoB h (h.push (.rw [.int .i64 0, .int .i64 0])) := Keep.push _ _ _
  have fin0 : ∀ {hh : Hp X} (K : Keep NoB h hh) {q : QQ}, Keep NoB h (hh.put h.n (.rw [.int .i64 q.1, .int .i64 q.2])) := fun {hh} K {q} =>
    K.own (Keep.put _ _ _ (S := OneB h.n) rfl) (fun k q => Nat.le_of_eq q.symm)
  repeat first|(refine BG ?_;first|(refine BH ?_;first|(refine BI ?_;refine BM ?_)|(refine BJ ?_;first|refine BN ?_|refine BO ?_)|refine BP ?_)|(refine BK ?_;first|refine BS rfl rfl ?_|refine BT rfl rfl ?_|refine BU rfl ?_)|(refine BL ?_;first|refine BQ ?_)|(refine BR ?_;try simp only [setS]))|refine AA ?_|refine AC ?_|refine AD ?_|refine AE ?_|refine AF rfl rfl ?_|refine AG rfl rfl ?_|refine AH ?_|refine AI ?_|refine AJ ?_|refine AK ?_|refine AL ?_|refine AM ?_|refine AN ?_|refine AO ?_|refine AP ?_|refine AQ rfl ?_|refine AR ?_|refine AS ?_|refine AT rfl ?_|refine AU rfl ?_
  refine wr_call_e rfl ((fright_ok hE T how).mono fun x h1 ⟨e1, e2⟩ => ?_)
  subst e2
  have e1 := e1.symm
  subst e1
  rcases Bool.eq_false_or_eq_true (decide (1 ≤ how) && decide (how ≤ 7)) with hh | hh
  case' inr =>
    have e : foldF how l = ((0, 0), 1) := by cases l with
      | nil => rfl
      | cons q l => show foldF1 how q l = _; unfold foldF1; rw [if_pos (.inl hh)]
    rw [e, hh]
    repeat first|(refine BG ?_;first|(refine BH ?_;first|(refine BI ?_;refine BM ?_)|(refine BJ ?_;first|refine BN ?_|refine BO ?_)|refine BV (v_notb rfl) ?_|refine BP ?_)|(refine BK ?_;first|refine BS rfl rfl ?_|refine BT rfl rfl ?_|refine BU rfl ?_)|(refine BL ?_;first|refine BW (ef_bxn bx rfl rfl rfl rfl (Nat.le_refl _)) ?_|refine BQ ?_)|(refine BR ?_;try simp only [setS]))|refine AA ?_|refine AC ?_|refine AD ?_|refine AE ?_|refine AF rfl rfl ?_|refine AG rfl rfl ?_|refine AH ?_|refine AI ?_|refine AJ ?_|refine AK ?_|refine AL ?_|refine AM ?_|refine AN ?_|refine AO ?_|refine AP ?_|refine AQ rfl ?_|refine AR ?_|refine AS ?_|refine AT rfl ?_|refine AU rfl ?_
    exact fin_q (q := (0, 0)) (er := 1) bx.put rfl rfl ⟨fin0 kp (q := (0, 0)), rfl⟩
  rw [hh]
  have a1 := a.up kp
  cases l with
  | nil =>
    repeat first|(refine BG ?_;first|(refine BH ?_;first|(refine BI ?_;refine BM ?_)|(refine BJ ?_;first|refine BN ?_|refine BO ?_)|refine BV (v_notb rfl) ?_|refine BV (a1.rs.lenv (by rfl)) ?_|refine BP ?_)|(refine BK ?_;first|refine BS rfl rfl ?_|refine BT rfl rfl ?_|refine BU rfl ?_)|(refine BL ?_;first|refine BW (ef_bxn bx rfl rfl rfl rfl (Nat.le_refl _)) ?_|refine BQ ?_)|(refine BR ?_;try simp only [setS]))|refine AA ?_|refine AC ?_|refine AD ?_|refine AE ?_|refine AF rfl rfl ?_|refine AG rfl rfl ?_|refine AH ?_|refine AI ?_|refine AJ ?_|refine AK ?_|refine AL ?_|refine AM ?_|refine AN ?_|refine AO ?_|refine AP ?_|refine AQ rfl ?_|refine AR ?_|refine AS ?_|refine AT rfl ?_|refine AU rfl ?_
    exact fin_q (q := (0, 0)) (er := 1) bx.put rfl rfl ⟨fin0 kp (q := (0, 0)), rfl⟩
  | cons q0 l =>
    have hl0 : ¬ (((q0 :: l).length : Nat) : Int) = 0 := by rw [List.length_cons]; omega
    repeat first|(refine BG ?_;first|(refine BH ?_;first|(refine BI ?_;refine BM ?_)|(refine BJ ?_;first|refine BN ?_|refine BO ?_)|refine BV (v_notb rfl) ?_|refine BV (a1.rs.lenv (by rfl)) ?_|refine BP ?_)|(refine BK ?_;first|refine BS rfl rfl ?_|refine BT rfl rfl ?_|refine BU rfl ?_)|(refine BL ?_;first|refine BQ ?_)|(refine BR ?_;try simp only [setS]))|refine AA ?_|refine AC ?_|refine AD ?_|refine AE ?_|refine AF rfl rfl ?_|refine AG rfl rfl ?_|refine AH ?_|refine AI ?_|refine AJ ?_|refine AK ?_|refine AL ?_|refine AM ?_|refine AN ?_|refine AO ?_|refine AP ?_|refine AQ rfl ?_|refine AR ?_|refine AS ?_|refine AT rfl ?_|refine AU rfl ?_
    refine wr_call_e rfl ((hasR_ok hE T a1).mono fun x h2 ⟨k2, b, e2, hb⟩ => ?_)
    subst e2
    have hall := all_right hb
    have bx := bx.up k2
    have K2 := kp.and k2
    have a2 := a1.up k2
    cases b with
    | true =>
      have e : foldF how (q0 :: l) = ((0, 0), 1) := by show foldF1 how q0 l = _; unfold foldF1; rw [if_pos (.inr hall)]
      rw [e]
      repeat first|(refine BG ?_;first|(refine BH ?_;first|(refine BI ?_;refine BM ?_)|(refine BJ ?_;first|refine BN ?_|refine BO ?_)|refine BP ?_)|(refine BK ?_;first|refine BS rfl rfl ?_|refine BT rfl rfl ?_|refine BU rfl ?_)|(refine BL ?_;first|refine BW (ef_bxn bx rfl rfl rfl rfl (Nat.le_refl _)) ?_|refine BQ ?_)|(refine BR ?_;try simp only [setS]))|refine AA ?_|refine AC ?_|refine AD ?_|refine AE ?_|refine AF rfl rfl ?_|refine AG rfl rfl ?_|refine AH ?_|refine AI ?_|refine AJ ?_|refine AK ?_|refine AL ?_|refine AM ?_|refine AN ?_|refine AO ?_|refine AP ?_|refine AQ rfl ?_|refine AR ?_|refine AS ?_|refine AT rfl ?_|refine AU rfl ?_
      exact fin_q (q := (0, 0)) (er := 1) bx.put rfl rfl ⟨fin0 K2 (q := (0, 0)), rfl⟩
    | false =>
      have e : foldF how (q0 :: l) = if (goF how q0 l).2 ≠ 0 then ((0, 0), (goF how q0 l).2)
    else if (newF (l.length + 1 : Nat) 1).2 ≠ 0 then ((0, 0), (newF (l.length + 1 : Nat) 1).2)
    else if how = 5 then ((newF (l.length + 1 : Nat) 1).1, 0)
    else if how = 4 then divF (goF how q0 l).1 (newF (l.length + 1 : Nat) 1).1
    else ((goF how q0 l).1, 0) := by
        show foldF1 how q0 l = _
        unfold foldF1
        rw [if_neg (by rw [hh, hall]; simp)]
      rw [e]
      have hq0 := a.row q0 (List.mem_cons_self ..)
      obtain ⟨g, o, c0, c1⟩ := a2.rs.atR (i := 0) (q := q0) rfl
      have kr := Keep.refl (NoB) (h2 : Hp X)
      repeat first|(refine BG ?_;first|(refine BH ?_;first|(refine BI ?_;refine BM ?_)|(refine BJ ?_;first|refine BN ?_|refine BO ?_)|refine BP ?_)|(refine BK ?_;first|refine BS rfl rfl ?_|refine BT rfl rfl ?_|refine BU rfl ?_)|(refine BL ?_;first|refine BQ ?_)|(refine BR ?_;try simp only [setS]))|refine AA ?_|refine AC ?_|refine AD ?_|refine AF rfl rfl ?_|refine AG rfl rfl ?_|refine AH ?_|refine AI ?_|refine AJ ?_|refine AK ?_|refine AL ?_|refine AM ?_|refine AN ?_|refine AO ?_|refine AP ?_|refine AQ rfl ?_|refine AR ?_|refine AS ?_|refine AT rfl ?_|refine AU rfl ?_
      repeat first|(refine BG ?_;first|(refine BH ?_;first|(refine BI ?_;refine BM ?_)|(refine BJ ?_;first|refine BN ?_|refine BO ?_)|refine BV (c0 rfl rfl) ?_|refine BV (c1 kr rfl) ?_|refine BP ?_)|(refine BK ?_;first|refine BS rfl rfl ?_|refine BT rfl rfl ?_|refine BU rfl ?_)|(refine BL ?_;first|refine BQ ?_)|(refine BR ?_;try simp only [setS]))|(refine BX ?_;first|refine BY rfl ?_|(refine BZ ?_;refine CA ?_)|refine CB (c0 rfl rfl) ?_|refine CB (c1 kr rfl) ?_|refine CC ?_|(refine CD ?_;try simp only [setS]))|refine AA ?_|refine AC ?_|refine AD ?_|refine AE ?_|refine AF rfl rfl ?_|refine AG rfl rfl ?_|refine AH ?_|refine AI ?_|refine AJ ?_|refine AK ?_|refine AL ?_|refine AM ?_|refine AN ?_|refine AO ?_|refine AP ?_|refine AQ rfl ?_|refine AR ?_|refine AS ?_|refine AT rfl ?_|refine AU rfl ?_
      have kq : Keep NoB h2 (h2.push (.rw [.int .i64 0, .int .i64 0])) := Keep.push _ _ _
      have bq : Bx (h2.push (.rw [.int .i64 0, .int .i64 0])) h2.n [.int .i64 0, .int .i64 0] := bx_push
      refine wd_alloc_s (by (try simp only [List.nil_append, List.cons_append]);repeat first|exact chk_nil|(apply chk_at;(focus exact rfl);first|exact pa_skp|(refine pa_mov ?_;first|exact (c0 rfl rfl)|exact (c1 kq rfl)|exact rfl))) ?_
      simp only [setS]
      generalize h2.push (.rw [.int .i64 0, .int .i64 0]) = h3 at *
      repeat first|(refine BG ?_;first|(refine BH ?_;first|(refine BI ?_;refine BM ?_)|(refine BJ ?_;first|refine BN ?_|refine BO ?_)|refine BP ?_)|(refine BK ?_;first|refine BS rfl rfl ?_|refine BT rfl rfl ?_|refine BU rfl ?_)|(refine BL ?_;first|refine BQ ?_)|(refine BR ?_;try simp only [setS]))|(refine BX ?_;first|refine BY rfl ?_|(refine BZ ?_;refine CA ?_)|refine CC ?_|(refine CD ?_;try simp only [setS]))|refine AA ?_|refine AC ?_|refine AD ?_|refine AE ?_|refine AF rfl rfl ?_|refine AG rfl rfl ?_|refine AH ?_|refine AI ?_|refine AJ ?_|refine AK ?_|refine AL ?_|refine AM ?_|refine AN ?_|refine AO ?_|refine AP ?_|refine AQ rfl ?_|refine AR ?_|refine AS ?_|refine AT rfl ?_|refine AU rfl ?_
      refine wd_calls_e rfl ((steps_ok hE T how).mono fun sv h4 ⟨k4, hsv⟩ => ?_)
      have hb3 := bq.lt
      have bq := bq.up k4
      have bx4 := (bx.up kq).up k4
      have K4 := (K2.and kq).and k4
      have k24 := kq.and k4
      refine ⟨(by (try simp only [List.nil_append, List.cons_append]);repeat first|exact chk_nil|(apply chk_at;(focus exact rfl);first|exact pa_skp|exact (pa_alc bq.get)|(refine pa_mov ?_;first|exact (c0 rfl rfl)|exact (c1 k24 rfl)|exact rfl))), ?_⟩
      repeat first|(refine BG ?_;first|(refine BH ?_;first|(refine BI ?_;refine BM ?_)|(refine BJ ?_;first|refine BN ?_|refine BO ?_)|refine BP ?_)|(refine BK ?_;first|refine BS rfl rfl ?_|refine BT rfl rfl ?_|refine BU rfl ?_)|(refine BL ?_;first|refine BQ ?_)|(refine BR ?_;try simp only [setS]))|(refine BX ?_;first|refine BY rfl ?_|(refine BZ ?_;refine CA ?_)|refine CC ?_|(refine CD ?_;try simp only [setS]))|refine AA ?_|refine AC ?_|refine AD ?_|refine AE ?_|refine AF rfl rfl ?_|refine AG rfl rfl ?_|refine AH ?_|refine AI ?_|refine AJ ?_|refine AK ?_|refine AL ?_|refine AM ?_|refine AN ?_|refine AO ?_|refine AP ?_|refine AQ rfl ?_|refine AR ?_|refine AS ?_|refine AT rfl ?_|refine AU rfl ?_
      refine wd_ef (ef_bxn bq rfl rfl int_all2 rfl (Nat.le_refl _)) chk_nil ?_
      refine wd_heap (h' := h4.put h2.n (.rw [.int .i64 q0.1, .int .i64 q0.2])) rfl ?_
      have k5 : Keep (OneB h2.n) h4 (h4.put h2.n (.rw [.int .i64 q0.1, .int .i64 q0.2])) := Keep.put _ _ _ rfl
      have hn2 := bx.lt
      have hn12 := K2.n
      have bq : Bx (h4.put h2.n (.rw [.int .i64 q0.1, .int .i64 q0.2])) h2.n [.int .i64 q0.1, .int .i64 q0.2] := bq.put
      have bx5 := bx4.keep k5 (fun q => by have q : h.n = h2.n := q; omega)
      have K5 := K4.own k5 (fun k q => by have q : k = h2.n := q; omega)
      have k25 := k24.own k5 (fun k q => by have q : k = h2.n := q; omega)
      have hsv := hsv.up k5 (fun k q => by have q : k = h2.n := q; omega)
      generalize h4.put h2.n (.rw [.int .i64 q0.1, .int .i64 q0.2]) = h5 at *
      have a5 := a2.up k25
      obtain ⟨vs, w1, w2, w3, w4⟩ := a5.rs.sl (lo := 1) (hi := (q0 :: l).length) (by rw [List.length_cons]; omega) (Nat.le_refl _)
      have ew : (((q0 :: l).flatMap qc).drop (1 * 2)).take (((q0 :: l).length - 1) * 2) = l.flatMap qc := by
        rw [List.flatMap_cons, show (1 * 2 : Nat) = (qc q0).length from rfl, List.drop_left, List.length_cons, Nat.add_sub_cancel, ← qc_len, List.take_length]
      rw [ew, List.length_cons, Nat.add_sub_cancel] at w1
      have hlen' : l.length + 1 ≤ 1000000 := by rw [← List.length_cons (a := q0)]; exact hlen
      repeat first|(refine BG ?_;first|(refine BH ?_;first|(refine BI ?_;refine BM ?_)|(refine BJ ?_;first|refine BN ?_|refine BO ?_)|refine BV (w4 (by rfl) (.inr ⟨_, _, rfl, rfl⟩) (.inl ⟨rfl, rfl⟩)) ?_|refine BV (w1.lenv (by rfl)) ?_|refine BP ?_)|(refine BK ?_;first|refine BS rfl rfl ?_|refine BT rfl rfl ?_|refine BU rfl ?_)|(refine BL ?_;first|refine BQ ?_)|(refine BR ?_;try simp only [setS]))|(refine BX ?_;first|refine BY rfl ?_|(refine BZ ?_;refine CA ?_)|refine CB (w4 (by rfl) (.inr ⟨_, _, rfl, rfl⟩) (.inl ⟨rfl, rfl⟩)) ?_|refine CB (w1.lenv (by rfl)) ?_|refine CC ?_|(refine CD ?_;try simp only [setS]))|refine AA ?_|refine AC ?_|refine AD ?_|refine AE ?_|refine AF rfl rfl ?_|refine AG rfl rfl ?_|refine AI ?_|refine AJ ?_|refine AK ?_|refine AL ?_|refine AM ?_|refine AN ?_|refine AO ?_|refine AP ?_|refine AQ rfl ?_|refine AR ?_|refine AS ?_|refine AT rfl ?_|refine AU rfl ?_
      refine wb_mid (fun t' h' => ∃ (acc : QQ) (s6 s7 s14 s15 : AV), goF how q0 l = (acc, 0) ∧ I64Q acc ∧ Keep (OneB h2.n) h5 h' ∧ Bx h' h.n [.int .i64 0, .int .i64 0] ∧ Bx h' h2.n [.int .i64 acc.1, .int .i64 acc.2] ∧ t' = [.int .i64 how, v, .ptr h.n 0, .int .i64 0, .ptr h2.n 0, sv, s6, s7, .bot, .bot, .bool false, vs, .int .i64 l.length, .int .i64 l.length, s14, s15, .bot, .bot, .bot]) ?_ ?_
      · have hvk : ∀ k, blk vs k → ¬ OneB h2.n k := fun k q1 q2 => by have := a.rs.lt k (w2 k q1); have q2 : k = h2.n := q2; omega
        repeat first|(refine BG ?_;first|(refine BH ?_;first|(refine BI ?_;refine BM ?_)|(refine BJ ?_;first|refine BN ?_|refine BO ?_)|refine BP ?_)|(refine BK ?_;first|refine BS rfl rfl ?_|refine BT rfl rfl ?_|refine BU rfl ?_)|(refine BL ?_;first|refine BQ ?_)|(refine BR ?_;try simp only [setS]))|refine AA ?_|refine AC ?_|refine AD ?_|refine AE ?_|refine AF rfl rfl ?_|refine AG rfl rfl ?_|refine AH ?_|refine AI ?_|refine AJ ?_|refine AK ?_|refine AL ?_|refine AM ?_|refine AN ?_|refine AO ?_|refine AP ?_|refine AQ rfl ?_|refine AR ?_|refine AS ?_|refine AT rfl ?_|refine AU rfl ?_
        refine wb_loop (fun n t hh => ∃ (i : Nat) (acc : QQ) (s6 s7 s14 s15 : AV), i ≤ l.length ∧ n = l.length - i ∧ goF how q0 l = goF how acc (l.drop i) ∧ I64Q acc ∧ Keep (OneB h2.n) h5 hh ∧ Bx hh h.n [.int .i64 0, .int .i64 0] ∧ Bx hh h2.n [.int .i64 acc.1, .int .i64 acc.2] ∧ t = [.int .i64 how, v, .ptr h.n 0, .int .i64 0, .ptr h2.n 0, sv, s6, s7, .bot, .bot, .bool false, vs, .int .i64 l.length, .int .i64 i, s14, s15, .bot, .bot, .bot]) ?_ l.length _ _ ⟨0, q0, _, _, _, _, by omega, by omega, rfl, hq0, Keep.refl _ _, bx5, bq, rfl⟩
        rintro n t hh ⟨i, acc, s6, s7, s14, s15, hi, hm, hgo, hacc, K, bR, bA, rfl⟩
        by_cases hlt : i < l.length
        · obtain ⟨q, hq⟩ : ∃ q, l[i]? = some q := ⟨_, List.getElem?_eq_getElem hlt⟩
          have hqi := a.row q (List.mem_cons_of_mem _ (List.mem_of_getElem? hq))
          have wv := w1.keep K hvk
          obtain ⟨g', o', d0, d1⟩ := wv.atR hq
          have bS : Bx (hh.push (.rw [.int .i64 0, .int .i64 0])) hh.n [.int .i64 0, .int .i64 0] := bx_push
          have kS : Keep NoB hh (hh.push (.rw [.int .i64 0, .int .i64 0])) := Keep.push _ _ _
          have kr := Keep.refl (NoB) (hh : Hp X)
          repeat first|(refine BG ?_;first|(refine BH ?_;first|(refine BI ?_;refine BM ?_)|(refine BJ ?_;first|refine BN ?_|refine BO ?_)|refine BV (d0 rfl rfl) ?_|refine BV (d1 kr rfl) ?_|refine BP ?_)|(refine BK ?_;first|refine BS rfl rfl ?_|refine BT rfl rfl ?_|refine BU rfl ?_)|(refine BL ?_;first|refine BW (ef_bxn bS rfl rfl int_all2 rfl (Nat.le_refl _)) ?_|refine BQ ?_)|(refine BR ?_;try simp only [setS]))|refine AA ?_|refine AC ?_|refine AD ?_|refine AE ?_|refine AF rfl rfl ?_|refine AG rfl rfl ?_|refine AH ?_|refine AI ?_|refine AJ ?_|refine AK ?_|refine AL ?_|refine AM ?_|refine AN ?_|refine AO ?_|refine AP ?_|refine AQ rfl ?_|refine AR ?_|refine AS ?_|refine AT rfl ?_|refine AU rfl ?_
          refine wr_heap (h' := (hh.push (.rw [.int .i64 0, .int .i64 0])).put hh.n (.rw [.int .i64 q.1, .int .i64 q.2])) rfl ?_
          have kS2 : Keep NoB hh ((hh.push (.rw [.int .i64 0, .int .i64 0])).put hh.n (.rw [.int .i64 q.1, .int .i64 q.2])) := kS.own (Keep.put (hh.push (.rw [.int .i64 0, .int .i64 0])) hh.n (.rw [.int .i64 q.1, .int .i64 q.2]) (S := OneB hh.n) rfl) (fun k q => Nat.le_of_eq q.symm)
          have bS : Bx ((hh.push (.rw [.int .i64 0, .int .i64 0])).put hh.n (.rw [.int .i64 q.1, .int .i64 q.2])) hh.n [.int .i64 q.1, .int .i64 q.2] := bS.put
          have bR := bR.up kS2
          have bA := bA.up kS2
          have K6 := K.and kS2
          clear kS
          generalize (hh.push (.rw [.int .i64 0, .int .i64 0])).put hh.n (.rw [.int .i64 q.1, .int .i64 q.2]) = h6 at *
          repeat first|(refine BG ?_;first|(refine BH ?_;first|(refine BI ?_;refine BM ?_)|(refine BJ ?_;first|refine BN ?_|refine BO ?_)|refine BV (v_bxn bA rfl (Nat.le_refl _)) ?_|refine BV (v_bxn bS rfl (Nat.le_refl _)) ?_|refine BP ?_)|(refine BK ?_;first|refine BS rfl rfl ?_|refine BT rfl rfl ?_|refine BU rfl ?_)|(refine BL ?_;first|refine BQ ?_)|(refine BR ?_;try simp only [setS]))|refine AA ?_|refine AC ?_|refine AD ?_|refine AE ?_|refine AF rfl rfl ?_|refine AG rfl rfl ?_|refine AH ?_|refine AI ?_|refine AJ ?_|refine AK ?_|refine AL ?_|refine AM ?_|refine AN ?_|refine AO ?_|refine AP ?_|refine AQ rfl ?_|refine AR ?_|refine AS ?_|refine AT rfl ?_|refine AU rfl ?_
          obtain ⟨ff, cs, esv, H⟩ := (hsv.up K6 (fun k q => by have q : k = h2.n := q; omega)).out
          subst esv
          refine wr_calv rfl rfl ((H _ (Keep.refl _ _) acc q hacc hqi).mono fun x h7 ⟨k7, e7⟩ => ?_)
          subst e7
          have bR := bR.up k7
          have bA := bA.up k7
          have K7 := K6.and k7
          have hst := stepF_i64 (how := how) hacc hqi
          have hdr : l.drop i = q :: l.drop (i + 1) := by rw [List.drop_eq_getElem_cons hlt]; congr 1; exact (List.getElem?_eq_some_iff.1 hq).2
          have hgo2 : goF how acc (l.drop i) = if (stepF how acc q).2 ≠ 0 then ((0, 0), (stepF how acc q).2) else goF how (stepF how acc q).1 (l.drop (i + 1)) := by rw [hdr]; rfl
          rw [hgo2] at hgo
          generalize stepF how acc q = r at *
          obtain ⟨⟨n1, n2⟩, er⟩ := r
          repeat first|(refine BG ?_;first|(refine BH ?_;first|(refine BI ?_;refine BM ?_)|(refine BJ ?_;first|refine BN ?_|refine BO ?_)|refine BP ?_)|(refine BK ?_;first|refine BS rfl rfl ?_|refine BT rfl rfl ?_|refine BU rfl ?_)|(refine BL ?_;first|refine BW (ef_bxn bA rfl rfl rfl rfl (Nat.le_refl _)) ?_|refine BQ ?_)|(refine BR ?_;try simp only [setS]))|refine AA ?_|refine AC ?_|refine AD ?_|refine AE ?_|refine AF rfl rfl ?_|refine AG rfl rfl ?_|refine AH ?_|refine AI ?_|refine AJ ?_|refine AK ?_|refine AL ?_|refine AM ?_|refine AN ?_|refine AO ?_|refine AP ?_|refine AQ rfl ?_|refine AR ?_|refine AS ?_|refine AT rfl ?_|refine AU rfl ?_
          refine wb_hq (h' := h7.put h2.n (.rw [.int .i64 n1, .int .i64 n2])) rfl ?_
          have k8 : Keep (OneB h2.n) h7 (h7.put h2.n (.rw [.int .i64 n1, .int .i64 n2])) := Keep.put _ _ _ rfl
          have bA : Bx (h7.put h2.n (.rw [.int .i64 n1, .int .i64 n2])) h2.n [.int .i64 n1, .int .i64 n2] := bA.put
          have bR := bR.keep k8 (fun q => by have q : h.n = h2.n := q; omega)
          have K8 := K7.trans k8 (fun _ _ q => q)
          generalize h7.put h2.n (.rw [.int .i64 n1, .int .i64 n2]) = h8 at *
          by_cases her : er = 0
          · subst her
            rw [if_neg (by simp)] at hgo
            repeat first|(refine BG ?_;first|(refine BH ?_;first|(refine BI ?_;refine BM ?_)|(refine BJ ?_;first|refine BN ?_|refine BO ?_)|refine BP ?_)|(refine BK ?_;first|refine BS rfl rfl ?_|refine BT rfl rfl ?_|refine BU rfl ?_)|(refine BL ?_;first|refine BQ ?_)|(refine BR ?_;try simp only [setS]))|refine AA ?_|refine AC ?_|refine AD ?_|refine AE ?_|refine AF rfl rfl ?_|refine AG rfl rfl ?_|refine AH ?_|refine AI ?_|refine AJ ?_|refine AK ?_|refine AL ?_|refine AM ?_|refine AN ?_|refine AO ?_|refine AP ?_|refine AQ rfl ?_|refine AR ?_|refine AS ?_|refine AT rfl ?_|refine AU rfl ?_
            rw [show ((i : Int) + 1) = ((i + 1 : Nat) : Int) by omega]
            exact round_norm (n - 1) (by omega) ⟨i + 1, (n1, n2), _, _, _, _, by omega, by omega, hgo, hst, K8, bR, bA, rfl⟩
          · rw [show (er != 0) = true by simp [her]]
            rw [if_pos her] at hgo
            rw [hgo, if_pos her]
            repeat first|(refine BG ?_;first|(refine BH ?_;first|(refine BI ?_;refine BM ?_)|(refine BJ ?_;first|refine BN ?_|refine BO ?_)|refine BP ?_)|(refine BK ?_;first|refine BS rfl rfl ?_|refine BT rfl rfl ?_|refine BU rfl ?_)|(refine BL ?_;first|refine BW (ef_bxn bR rfl rfl rfl rfl (Nat.le_refl _)) ?_|refine BQ ?_)|(refine BR ?_;try simp only [setS]))|refine AA ?_|refine AC ?_|refine AD ?_|refine AE ?_|refine AF rfl rfl ?_|refine AG rfl rfl ?_|refine AH ?_|refine AI ?_|refine AJ ?_|refine AK ?_|refine AL ?_|refine AM ?_|refine AN ?_|refine AO ?_|refine AP ?_|refine AQ rfl ?_|refine AR ?_|refine AS ?_|refine AT rfl ?_|refine AU rfl ?_
            refine mid_ret ⟨?_⟩
            exact fin_q (q := (0, 0)) (er := er) bR.put rfl rfl ⟨fin0 (K5.own K8 (fun k q => by have q : k = h2.n := q; omega)) (q := (0, 0)), rfl⟩
        · obtain rfl : i = l.length := by omega
          rw [List.drop_length] at hgo
          repeat first|(refine BG ?_;first|(refine BH ?_;first|(refine BI ?_;refine BM ?_)|(refine BJ ?_;first|refine BN ?_|refine BO ?_)|refine BP ?_)|(refine BK ?_;first|refine BS rfl rfl ?_|refine BT rfl rfl ?_|refine BU rfl ?_)|(refine BL ?_;first|refine BQ ?_)|(refine BR ?_;try simp only [setS]))|refine AA ?_|refine AC ?_|refine AD ?_|refine AE ?_|refine AF rfl rfl ?_|refine AG rfl rfl ?_|refine AH ?_|refine AI ?_|refine AJ ?_|refine AK ?_|refine AL ?_|refine AM ?_|refine AN ?_|refine AO ?_|refine AP ?_|refine AQ rfl ?_|refine AR ?_|refine AS ?_|refine AT rfl ?_|refine AU rfl ?_
          exact mid_norm ⟨acc, _, _, _, _, hgo, hacc, K, bR, bA, rfl⟩
      rintro t' h' ⟨acc, s6, s7, s14, s15, hgo, hacc, K, bR, bA, rfl⟩
      rw [hgo, if_neg (by simp)]
      have K9 := K5.own K (fun k q => by have q : k = h2.n := q; omega)
      have a9 : Rats h' v (q0 :: l) := a.up K9
      have elen : (((q0 :: l).length : Nat) : Int) = (l.length + 1 : Nat) := by rw [List.length_cons]
      repeat first|(refine BG ?_;first|(refine BH ?_;first|(refine BI ?_;refine BM ?_)|(refine BJ ?_;first|refine BN ?_|refine BO ?_)|refine BV (a9.rs.lenv (by rfl)) ?_|refine BP ?_)|(refine BK ?_;first|refine BS rfl rfl ?_|refine BT rfl rfl ?_|refine BU rfl ?_)|(refine BL ?_;first|refine BQ ?_)|(refine BR ?_;try simp only [setS]))|refine AA ?_|refine AC ?_|refine AD ?_|refine AE ?_|refine AF rfl rfl ?_|refine AG rfl rfl ?_|refine AH ?_|refine AI ?_|refine AJ ?_|refine AK ?_|refine AL ?_|refine AM ?_|refine AN ?_|refine AO ?_|refine AP ?_|refine AQ rfl ?_|refine AR ?_|refine AS ?_|refine AT rfl ?_|refine AU rfl ?_
      refine wr_call_e rfl ((ofq_ok hE T.toQaS (n := ((q0 :: l).length : Nat)) ⟨by rw [elen]; omega, by rw [elen]; omega⟩).mono fun x h10 ⟨k10, e10⟩ => ?_)
      subst e10
      rw [elen]
      have bR := bR.up k10
      have bA := bA.up k10
      have K10 := K9.and k10
      have hni := newF_i64 ((l.length + 1 : Nat) : Int) 1
      generalize newF ((l.length + 1 : Nat) : Int) 1 = r at *
      obtain ⟨⟨n1, n2⟩, er⟩ := r
      have bS : Bx (h10.push (.rw [.int .i64 0, .int .i64 0])) h10.n [.int .i64 0, .int .i64 0] := bx_push
      have kS : Keep NoB h10 (h10.push (.rw [.int .i64 0, .int .i64 0])) := Keep.push _ _ _
      repeat first|(refine BG ?_;first|(refine BH ?_;first|(refine BI ?_;refine BM ?_)|(refine BJ ?_;first|refine BN ?_|refine BO ?_)|refine BP ?_)|(refine BK ?_;first|refine BS rfl rfl ?_|refine BT rfl rfl ?_|refine BU rfl ?_)|(refine BL ?_;first|refine BW (ef_bxn bS rfl rfl rfl rfl (Nat.le_refl _)) ?_|refine BQ ?_)|(refine BR ?_;try simp only [setS]))|refine AA ?_|refine AC ?_|refine AD ?_|refine AE ?_|refine AF rfl rfl ?_|refine AG rfl rfl ?_|refine AH ?_|refine AI ?_|refine AJ ?_|refine AK ?_|refine AL ?_|refine AM ?_|refine AN ?_|refine AO ?_|refine AP ?_|refine AQ rfl ?_|refine AR ?_|refine AS ?_|refine AT rfl ?_|refine AU rfl ?_
      refine wb_hq (h' := (h10.push (.rw [.int .i64 0, .int .i64 0])).put h10.n (.rw [.int .i64 n1, .int .i64 n2])) rfl ?_
      have kS2 : Keep NoB h10 ((h10.push (.rw [.int .i64 0, .int .i64 0])).put h10.n (.rw [.int .i64 n1, .int .i64 n2])) := kS.own (Keep.put (h10.push (.rw [.int .i64 0, .int .i64 0])) h10.n (.rw [.int .i64 n1, .int .i64 n2]) (S := OneB h10.n) rfl) (fun k q => Nat.le_of_eq q.symm)
      have bS : Bx ((h10.push (.rw [.int .i64 0, .int .i64 0])).put h10.n (.rw [.int .i64 n1, .int .i64 n2])) h10.n [.int .i64 n1, .int .i64 n2] := bS.put
      have bR := bR.up kS2
      have bA := bA.up kS2
      have K11 := K10.and kS2
      clear kS
      generalize (h10.push (.rw [.int .i64 0, .int .i64 0])).put h10.n (.rw [.int .i64 n1, .int .i64 n2]) = h11 at *
      by_cases her : er = 0
      case' neg =>
        rw [if_pos her, show (er != 0) = true by simp [her]]
        repeat first|(refine BG ?_;first|(refine BH ?_;first|(refine BI ?_;refine BM ?_)|(refine BJ ?_;first|refine BN ?_|refine BO ?_)|refine BP ?_)|(refine BK ?_;first|refine BS rfl rfl ?_|refine BT rfl rfl ?_|refine BU rfl ?_)|(refine BL ?_;first|refine BW (ef_bxn bR rfl rfl rfl rfl (Nat.le_refl _)) ?_|refine BQ ?_)|(refine BR ?_;try simp only [setS]))|refine AA ?_|refine AC ?_|refine AD ?_|refine AE ?_|refine AF rfl rfl ?_|refine AG rfl rfl ?_|refine AH ?_|refine AI ?_|refine AJ ?_|refine AK ?_|refine AL ?_|refine AM ?_|refine AN ?_|refine AO ?_|refine AP ?_|refine AQ rfl ?_|refine AR ?_|refine AS ?_|refine AT rfl ?_|refine AU rfl ?_
        exact fin_q (q := (0, 0)) (er := er) bR.put rfl rfl ⟨fin0 K11 (q := (0, 0)), rfl⟩
      subst her
      rw [if_neg (by simp)]
      by_cases h5' : how = 5
      · rw [if_pos h5']
        repeat first|(refine BG ?_;first|(refine BH ?_;first|(refine BI ?_;refine BM ?_)|(refine BJ ?_;first|refine BN ?_|refine BO ?_)|refine BV (v_bxn bS rfl (Nat.le_refl _)) ?_|refine BP ?_)|(refine BK ?_;first|refine BS rfl rfl ?_|refine BT rfl rfl ?_|refine BU rfl ?_)|(refine BL ?_;first|refine BW (ef_bxn bR rfl rfl rfl rfl (Nat.le_refl _)) ?_|refine BQ ?_)|(refine BR ?_;try simp only [setS]))|refine AA ?_|refine AC ?_|refine AD ?_|refine AE ?_|refine AF rfl rfl ?_|refine AG rfl rfl ?_|refine AH ?_|refine AI ?_|refine AJ ?_|refine AK ?_|refine AL ?_|refine AM ?_|refine AN ?_|refine AO ?_|refine AP ?_|refine AQ rfl ?_|refine AR ?_|refine AS ?_|refine AT rfl ?_|refine AU rfl ?_
        exact fin_q (q := (n1, n2)) (er := 0) bR.put rfl rfl ⟨fin0 K11 (q := (n1, n2)), rfl⟩
      rw [if_neg h5']
      by_cases h4' : how = 4
      · rw [if_pos h4']
        repeat first|(refine BG ?_;first|(refine BH ?_;first|(refine BI ?_;refine BM ?_)|(refine BJ ?_;first|refine BN ?_|refine BO ?_)|refine BV (v_bxn bA rfl (Nat.le_refl _)) ?_|refine BV (v_bxn bS rfl (Nat.le_refl _)) ?_|refine BP ?_)|(refine BK ?_;first|refine BS rfl rfl ?_|refine BT rfl rfl ?_|refine BU rfl ?_)|(refine BL ?_;first|refine BQ ?_)|(refine BR ?_;try simp only [setS]))|refine AA ?_|refine AC ?_|refine AD ?_|refine AE ?_|refine AF rfl rfl ?_|refine AG rfl rfl ?_|refine AH ?_|refine AI ?_|refine AJ ?_|refine AK ?_|refine AL ?_|refine AM ?_|refine AN ?_|refine AO ?_|refine AP ?_|refine AQ rfl ?_|refine AR ?_|refine AS ?_|refine AT rfl ?_|refine AU rfl ?_
        refine wr_call_e rfl ((divq_ok hE T.toQaS hacc hni).mono fun x h12 ⟨k12, e12⟩ => ?_)
        subst e12
        have bR := bR.up k12
        have K12 := K11.and k12
        simp only
        generalize divF acc (n1, n2) = r12 at *
        obtain ⟨⟨n12, m12⟩, er12⟩ := r12
        repeat first|(refine BG ?_;first|(refine BH ?_;first|(refine BI ?_;refine BM ?_)|(refine BJ ?_;first|refine BN ?_|refine BO ?_)|refine BP ?_)|(refine BK ?_;first|refine BS rfl rfl ?_|refine BT rfl rfl ?_|refine BU rfl ?_)|(refine BL ?_;first|refine BW (ef_bxn bR rfl rfl rfl rfl (Nat.le_refl _)) ?_|refine BQ ?_)|(refine BR ?_;try simp only [setS]))|refine AA ?_|refine AC ?_|refine AD ?_|refine AE ?_|refine AF rfl rfl ?_|refine AG rfl rfl ?_|refine AH ?_|refine AI ?_|refine AJ ?_|refine AK ?_|refine AL ?_|refine AM ?_|refine AN ?_|refine AO ?_|refine AP ?_|refine AQ rfl ?_|refine AR ?_|refine AS ?_|refine AT rfl ?_|refine AU rfl ?_
        exact fin_q (q := (n12, m12)) (er := er12) bR.put rfl rfl ⟨fin0 K12 (q := (n12, m12)), rfl⟩
      rw [if_neg h4']
      repeat first|(refine BG ?_;first|(refine BH ?_;first|(refine BI ?_;refine BM ?_)|(refine BJ ?_;first|refine BN ?_|refine BO ?_)|refine BV (v_bxn bA rfl (Nat.le_refl _)) ?_|refine BP ?_)|(refine BK ?_;first|refine BS rfl rfl ?_|refine BT rfl rfl ?_|refine BU rfl ?_)|(refine BL ?_;first|refine BW (ef_bxn bR rfl rfl rfl rfl (Nat.le_refl _)) ?_|refine BQ ?_)|(refine BR ?_;try simp only [setS]))|refine AA ?_|refine AC ?_|refine AD ?_|refine AE ?_|refine AF rfl rfl ?_|refine AG rfl rfl ?_|refine AH ?_|refine AI ?_|refine AJ ?_|refine AK ?_|refine AL ?_|refine AM ?_|refine AN ?_|refine AO ?_|refine AP ?_|refine AQ rfl ?_|refine AR ?_|refine AS ?_|refine AT rfl ?_|refine AU rfl ?_
      exact fin_q (q := acc) (er := 0) bR.put rfl rfl ⟨fin0 K11 (q := acc), rfl⟩
end
end Am
end Go.Proofs.Ytkgplkddpigagaa
