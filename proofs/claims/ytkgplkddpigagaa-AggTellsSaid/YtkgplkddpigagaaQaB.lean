/- Package rat: Right, Of, exact, Add, Sub, Mul, Div, Cmp. -/
import Derived.Test.YtkgplkddpigagaaQaA
set_option linter.unusedVariables false
set_option linter.unusedSimpArgs false
namespace Go.Proofs.Ytkgplkddpigagaa
namespace Am
open Go.RowKit
set_option maxRecDepth 100000
def b_ratExact : BF := ⟨30, [0, 1, 2, 3, 4, 5, 8, 9, 17], (.seq (.reg [.mk none (.slot 4) (.eff (.box (.slot 0))), .mk none (.slot 5) (.eff (.box (.slot 1))), .mk none (.slot 6) (.eff (.alloc [(.int .i64 0), (.int .i64 0)])), .mk none (.slot 7) (.mov (.mv (.const (.int .i64 0))))]) (.seq (.seq (.reg [.mk none (.env 10) (.mov (.ldn 2 (.slot 4))), .mk none (.env 11) (.call 39 [(.env 10)]), .mk none (.env 12) (.mov (.notb (.env 11))), .mk none (.env 13) (.mov (.mv (.env 12))), .mk (some ((.env 13), false)) (.env 14) (.mov (.ldn 2 (.slot 5))), .mk (some ((.env 13), false)) (.env 15) (.call 39 [(.env 14)]), .mk (some ((.env 13), false)) (.env 16) (.mov (.notb (.env 15))), .mk none (.slot 8) (.mov (.pick (.env 13) (.const (.bool true)) (.env 16)))]) (.cond (.slot 8) (.seq (.reg [.mk none (.env 18) (.mov (.bld [(.int .i64 0), (.int .i64 0)] [])), .mk none .none (.eff (.store 2 (.slot 6) (.env 18))), .mk none (.slot 7) (.mov (.mv (.const (.int .i64 1))))]) .ret) .skip)) (.seq (.dreg [(.mk none (.env 19) (.mov (.mv (.slot 2))), []), (.mk none (.env 20) (.mov (.ldn 2 (.slot 4))), []), (.mk none (.env 21) (.mov (.ldn 2 (.slot 5))), []), (.mk none (.env 23) (.mov (.mv (.slot 3))), []), (.mk none (.env 24) (.mov (.ldn 2 (.slot 4))), []), (.mk none (.env 25) (.mov (.ldn 2 (.slot 5))), []), (.mk none (.env 22) (.calv (.env 19) [(.env 20), (.env 21)]), [3, 4, 5]), (.mk none (.env 26) (.calv (.env 23) [(.env 24), (.env 25)]), []), (.mk none (.env 27) (.call 51 [(.env 22), (.env 26)]), []), (.mk none (.env 28) (.mov (.ext 0 (.env 27))), []), (.mk none (.env 29) (.mov (.ext 1 (.env 27))), []), (.mk none .none (.eff (.store 2 (.slot 6) (.env 28))), []), (.mk none (.slot 7) (.mov (.mv (.env 29))), [])]) .ret))), [.celln 2 (.slot 6), .slot (.slot 7)]⟩
def b_ratBoth : BF := ⟨10, [0, 1, 2, 3, 4], (.seq (.reg [.mk none (.slot 2) (.eff (.box (.slot 0))), .mk none (.slot 3) (.eff (.box (.slot 1))), .mk none (.slot 4) (.mov (.mv (.const (.int .i64 0))))]) (.seq (.reg [.mk none (.env 5) (.mov (.faddr 1 (.slot 2))), .mk none (.env 6) (.mov (.ld1 (.env 5))), .mk none (.env 7) (.mov (.faddr 1 (.slot 3))), .mk none (.env 8) (.mov (.ld1 (.env 7))), .mk none (.env 9) (.mov (.bin .mul .no (.env 6) (.env 8))), .mk none (.slot 4) (.mov (.mv (.env 9)))]) .ret)), [.slot (.slot 4)]⟩
def b_ratAdd : BF := ⟨11, [0, 1, 2, 3, 4, 5], (.seq (.reg [.mk none (.slot 2) (.eff (.box (.slot 0))), .mk none (.slot 3) (.eff (.box (.slot 1))), .mk none (.slot 4) (.eff (.alloc [(.int .i64 0), (.int .i64 0)])), .mk none (.slot 5) (.mov (.mv (.const (.int .i64 0))))]) (.seq (.reg [.mk none (.env 6) (.mov (.ldn 2 (.slot 2))), .mk none (.env 7) (.mov (.ldn 2 (.slot 3))), .mk none (.env 8) (.call 63 [(.env 6), (.env 7), (.const (.func 82 [])), (.const (.func 78 []))]), .mk none (.env 9) (.mov (.ext 0 (.env 8))), .mk none (.env 10) (.mov (.ext 1 (.env 8))), .mk none .none (.eff (.store 2 (.slot 4) (.env 9))), .mk none (.slot 5) (.mov (.mv (.env 10)))]) .ret)), [.celln 2 (.slot 4), .slot (.slot 5)]⟩
def b_ratAdd1 : BF := ⟨16, [0, 1, 2, 3, 4], (.seq (.reg [.mk none (.slot 2) (.eff (.box (.slot 0))), .mk none (.slot 3) (.eff (.box (.slot 1))), .mk none (.slot 4) (.mov (.mv (.const (.int .i64 0))))]) (.seq (.reg [.mk none (.env 5) (.mov (.faddr 0 (.slot 2))), .mk none (.env 6) (.mov (.ld1 (.env 5))), .mk none (.env 7) (.mov (.faddr 1 (.slot 3))), .mk none (.env 8) (.mov (.ld1 (.env 7))), .mk none (.env 9) (.mov (.bin .mul .no (.env 6) (.env 8))), .mk none (.env 10) (.mov (.faddr 0 (.slot 3))), .mk none (.env 11) (.mov (.ld1 (.env 10))), .mk none (.env 12) (.mov (.faddr 1 (.slot 2))), .mk none (.env 13) (.mov (.ld1 (.env 12))), .mk none (.env 14) (.mov (.bin .mul .no (.env 11) (.env 13))), .mk none (.env 15) (.mov (.bin .add .no (.env 9) (.env 14))), .mk none (.slot 4) (.mov (.mv (.env 15)))]) .ret)), [.slot (.slot 4)]⟩
def b_ratSub : BF := ⟨11, [0, 1, 2, 3, 4, 5], (.seq (.reg [.mk none (.slot 2) (.eff (.box (.slot 0))), .mk none (.slot 3) (.eff (.box (.slot 1))), .mk none (.slot 4) (.eff (.alloc [(.int .i64 0), (.int .i64 0)])), .mk none (.slot 5) (.mov (.mv (.const (.int .i64 0))))]) (.seq (.reg [.mk none (.env 6) (.mov (.ldn 2 (.slot 2))), .mk none (.env 7) (.mov (.ldn 2 (.slot 3))), .mk none (.env 8) (.call 63 [(.env 6), (.env 7), (.const (.func 77 [])), (.const (.func 78 []))]), .mk none (.env 9) (.mov (.ext 0 (.env 8))), .mk none (.env 10) (.mov (.ext 1 (.env 8))), .mk none .none (.eff (.store 2 (.slot 4) (.env 9))), .mk none (.slot 5) (.mov (.mv (.env 10)))]) .ret)), [.celln 2 (.slot 4), .slot (.slot 5)]⟩
def b_ratSub1 : BF := ⟨16, [0, 1, 2, 3, 4], (.seq (.reg [.mk none (.slot 2) (.eff (.box (.slot 0))), .mk none (.slot 3) (.eff (.box (.slot 1))), .mk none (.slot 4) (.mov (.mv (.const (.int .i64 0))))]) (.seq (.reg [.mk none (.env 5) (.mov (.faddr 0 (.slot 2))), .mk none (.env 6) (.mov (.ld1 (.env 5))), .mk none (.env 7) (.mov (.faddr 1 (.slot 3))), .mk none (.env 8) (.mov (.ld1 (.env 7))), .mk none (.env 9) (.mov (.bin .mul .no (.env 6) (.env 8))), .mk none (.env 10) (.mov (.faddr 0 (.slot 3))), .mk none (.env 11) (.mov (.ld1 (.env 10))), .mk none (.env 12) (.mov (.faddr 1 (.slot 2))), .mk none (.env 13) (.mov (.ld1 (.env 12))), .mk none (.env 14) (.mov (.bin .mul .no (.env 11) (.env 13))), .mk none (.env 15) (.mov (.bin .sub .no (.env 9) (.env 14))), .mk none (.slot 4) (.mov (.mv (.env 15)))]) .ret)), [.slot (.slot 4)]⟩
def b_ratMul : BF := ⟨11, [0, 1, 2, 3, 4, 5], (.seq (.reg [.mk none (.slot 2) (.eff (.box (.slot 0))), .mk none (.slot 3) (.eff (.box (.slot 1))), .mk none (.slot 4) (.eff (.alloc [(.int .i64 0), (.int .i64 0)])), .mk none (.slot 5) (.mov (.mv (.const (.int .i64 0))))]) (.seq (.reg [.mk none (.env 6) (.mov (.ldn 2 (.slot 2))), .mk none (.env 7) (.mov (.ldn 2 (.slot 3))), .mk none (.env 8) (.call 63 [(.env 6), (.env 7), (.const (.func 81 [])), (.const (.func 78 []))]), .mk none (.env 9) (.mov (.ext 0 (.env 8))), .mk none (.env 10) (.mov (.ext 1 (.env 8))), .mk none .none (.eff (.store 2 (.slot 4) (.env 9))), .mk none (.slot 5) (.mov (.mv (.env 10)))]) .ret)), [.celln 2 (.slot 4), .slot (.slot 5)]⟩
def b_ratMul1 : BF := ⟨10, [0, 1, 2, 3, 4], (.seq (.reg [.mk none (.slot 2) (.eff (.box (.slot 0))), .mk none (.slot 3) (.eff (.box (.slot 1))), .mk none (.slot 4) (.mov (.mv (.const (.int .i64 0))))]) (.seq (.reg [.mk none (.env 5) (.mov (.faddr 0 (.slot 2))), .mk none (.env 6) (.mov (.ld1 (.env 5))), .mk none (.env 7) (.mov (.faddr 0 (.slot 3))), .mk none (.env 8) (.mov (.ld1 (.env 7))), .mk none (.env 9) (.mov (.bin .mul .no (.env 6) (.env 8))), .mk none (.slot 4) (.mov (.mv (.env 9)))]) .ret)), [.slot (.slot 4)]⟩
def b_ratDiv : BF := ⟨11, [0, 1, 2, 3, 4, 5], (.seq (.reg [.mk none (.slot 2) (.eff (.box (.slot 0))), .mk none (.slot 3) (.eff (.box (.slot 1))), .mk none (.slot 4) (.eff (.alloc [(.int .i64 0), (.int .i64 0)])), .mk none (.slot 5) (.mov (.mv (.const (.int .i64 0))))]) (.seq (.reg [.mk none (.env 6) (.mov (.ldn 2 (.slot 2))), .mk none (.env 7) (.mov (.ldn 2 (.slot 3))), .mk none (.env 8) (.call 63 [(.env 6), (.env 7), (.const (.func 64 [])), (.const (.func 65 []))]), .mk none (.env 9) (.mov (.ext 0 (.env 8))), .mk none (.env 10) (.mov (.ext 1 (.env 8))), .mk none .none (.eff (.store 2 (.slot 4) (.env 9))), .mk none (.slot 5) (.mov (.mv (.env 10)))]) .ret)), [.celln 2 (.slot 4), .slot (.slot 5)]⟩
def b_ratDiv1 : BF := ⟨10, [0, 1, 2, 3, 4], (.seq (.reg [.mk none (.slot 2) (.eff (.box (.slot 0))), .mk none (.slot 3) (.eff (.box (.slot 1))), .mk none (.slot 4) (.mov (.mv (.const (.int .i64 0))))]) (.seq (.reg [.mk none (.env 5) (.mov (.faddr 0 (.slot 2))), .mk none (.env 6) (.mov (.ld1 (.env 5))), .mk none (.env 7) (.mov (.faddr 1 (.slot 3))), .mk none (.env 8) (.mov (.ld1 (.env 7))), .mk none (.env 9) (.mov (.bin .mul .no (.env 6) (.env 8))), .mk none (.slot 4) (.mov (.mv (.env 9)))]) .ret)), [.slot (.slot 4)]⟩
def b_ratDiv2 : BF := ⟨10, [0, 1, 2, 3, 4], (.seq (.reg [.mk none (.slot 2) (.eff (.box (.slot 0))), .mk none (.slot 3) (.eff (.box (.slot 1))), .mk none (.slot 4) (.mov (.mv (.const (.int .i64 0))))]) (.seq (.reg [.mk none (.env 5) (.mov (.faddr 1 (.slot 2))), .mk none (.env 6) (.mov (.ld1 (.env 5))), .mk none (.env 7) (.mov (.faddr 0 (.slot 3))), .mk none (.env 8) (.mov (.ld1 (.env 7))), .mk none (.env 9) (.mov (.bin .mul .no (.env 6) (.env 8))), .mk none (.slot 4) (.mov (.mv (.env 9)))]) .ret)), [.slot (.slot 4)]⟩
def b_ratCmp : BF := ⟨40, [0, 1, 2, 3, 4, 5, 6, 11, 18, 21, 24, 36], (.seq (.reg [.mk none (.slot 2) (.eff (.box (.slot 0))), .mk none (.slot 3) (.eff (.box (.slot 1))), .mk none (.slot 4) (.mov (.mv (.const (.int .i64 0))))]) (.seq (.dreg [(.mk none (.env 7) (.mov (.ldn 2 (.slot 2))), []), (.mk none (.env 9) (.mov (.ldn 2 (.slot 3))), []), (.mk none (.env 8) (.call 39 [(.env 7)]), [1]), (.mk none (.env 10) (.call 39 [(.env 9)]), []), (.mk none (.slot 5) (.mov (.mv (.env 8))), []), (.mk none (.slot 6) (.mov (.mv (.env 10))), [])]) (.seq (.block 0 (.seq (.reg [.mk none (.env 12) (.mov (.mv (.slot 5))), .mk none (.env 13) (.mov (.notb (.env 12))), .mk none (.env 14) (.mov (.mv (.env 13))), .mk (some ((.env 14), true)) (.env 15) (.mov (.mv (.slot 6))), .mk (some ((.env 14), true)) (.env 16) (.mov (.notb (.env 15))), .mk none (.env 17) (.mov (.pick (.env 14) (.env 16) (.const (.bool false)))), .mk none (.slot 7) (.mov (.mv (.env 17)))]) (.cond (.slot 7) (.seq (.reg [.mk none (.slot 4) (.mov (.mv (.const (.int .i64 0))))]) .ret) (.seq (.reg [.mk none (.env 19) (.mov (.mv (.slot 5))), .mk none (.env 20) (.mov (.notb (.env 19))), .mk none (.slot 8) (.mov (.mv (.env 20)))]) (.cond (.slot 8) (.seq (.reg [.mk none (.slot 4) (.mov (.mv (.const (.int .i64 (-1)))))]) .ret) (.seq (.reg [.mk none (.env 22) (.mov (.mv (.slot 6))), .mk none (.env 23) (.mov (.notb (.env 22))), .mk none (.slot 9) (.mov (.mv (.env 23)))]) (.cond (.slot 9) (.seq (.reg [.mk none (.slot 4) (.mov (.mv (.const (.int .i64 1))))]) .ret) (.seq (.reg [.mk none (.env 25) (.mov (.faddr 0 (.slot 2))), .mk none (.env 26) (.mov (.ld1 (.env 25))), .mk none (.env 27) (.mov (.faddr 1 (.slot 3))), .mk none (.env 28) (.mov (.ld1 (.env 27))), .mk none (.env 29) (.mov (.bin .mul .no (.env 26) (.env 28))), .mk none (.env 30) (.mov (.faddr 0 (.slot 3))), .mk none (.env 31) (.mov (.ld1 (.env 30))), .mk none (.env 32) (.mov (.faddr 1 (.slot 2))), .mk none (.env 33) (.mov (.ld1 (.env 32))), .mk none (.env 34) (.mov (.bin .mul .no (.env 31) (.env 33))), .mk none (.env 35) (.mov (.bin .lss .no (.env 29) (.env 34))), .mk none (.slot 10) (.mov (.mv (.env 35)))]) (.cond (.slot 10) (.seq (.reg [.mk none (.slot 4) (.mov (.mv (.const (.int .i64 (-1)))))]) .ret) (.seq (.reg [.mk none (.env 37) (.mov (.ldn 2 (.slot 2))), .mk none (.env 38) (.mov (.ldn 2 (.slot 3))), .mk none (.env 39) (.mov (.seq false [0, 0] (.env 37) (.env 38))), .mk none (.slot 11) (.mov (.mv (.env 39)))]) (.cond (.slot 11) (.seq (.reg [.mk none (.slot 4) (.mov (.mv (.const (.int .i64 0))))]) .ret) .skip))))))))))) (.seq (.reg [.mk none (.slot 4) (.mov (.mv (.const (.int .i64 1))))]) .ret)))), [.slot (.slot 4)]⟩
theorem mul_bnd {x y : Int} {m : Nat} (hx : -(m : Int) ≤ x ∧ x ≤ m) (hy : -(m : Int) ≤ y ∧ y ≤ m) : -((m * m : Nat) : Int) ≤ x * y ∧ x * y ≤ (m * m : Nat) := by
  have h1 : (x * y).natAbs ≤ m * m := by
    rw [Int.natAbs_mul]
    exact Nat.mul_le_mul (by omega) (by omega)
  omega
theorem mulN {x y : Int} (hx : -(maxN : Int) ≤ x ∧ x ≤ maxN) (hy : -(maxN : Int) ≤ y ∧ y ≤ maxN) : -4611686014132420609 ≤ x * y ∧ x * y ≤ 4611686014132420609 := mul_bnd (m := maxN) hx hy
theorem RightQ.d {q : QQ} (a : RightQ q) : -(maxN : Int) ≤ q.2 ∧ q.2 ≤ maxN := ⟨by have := a.pos; omega, a.top⟩
theorem RightQ.n {q : QQ} (a : RightQ q) : -(maxN : Int) ≤ q.1 ∧ q.1 ≤ maxN := ⟨a.n0, a.n1⟩
section
variable {X : Type} {D : Dp X} {l : Dr} {past : List (Pa X)} {e : En} {t : List AV} {h : Hp X} {Q : R X → Prop} {chk : List Nat}
theorem v_muli {q : Eq} {x y : Od} {a b : Int} (hx : x.ev e t = .int .i64 a) (hy : y.ev e t = .int .i64 b) (hc : -4611686014132420609 ≤ a * b ∧ a * b ≤ 4611686014132420609) : (Mv.bin .mul q x y).ev e t h = some (.int .i64 (a * b)) := by simp [Mv.ev, hx, hy, Am.bin, AV.onInt, intOp, isShift, wr64 (show -9223372036854775808 ≤ a * b ∧ a * b < 9223372036854775808 by omega)]
theorem v_seq2t {x y : Od} {a b : QQ} (hx : x.ev e t = .agg [.int .i64 a.1, .int .i64 a.2]) (hy : y.ev e t = .agg [.int .i64 b.1, .int .i64 b.2]) (hab : a = b) : (Mv.seq false [0, 0] x y).ev e t h = some (.bool true) := by
  rw [v_seq2 hx hy, decide_eq_true hab]; rfl
theorem v_seq2f {x y : Od} {a b : QQ} (hx : x.ev e t = .agg [.int .i64 a.1, .int .i64 a.2]) (hy : y.ev e t = .agg [.int .i64 b.1, .int .i64 b.2]) (hab : a ≠ b) : (Mv.seq false [0, 0] x y).ev e t h = some (.bool false) := by
  rw [v_seq2 hx hy, decide_eq_false hab]; rfl
theorem wd_calv {k f : Nat} {cs : List AV} {x : Od} {xs : List Od} {args : List AV} (hx : x.ev e t = .func f cs) (ha : (xs.map fun x => x.ev e t) = args) (H : WF D f (args ++ cs) h fun v h' => Chk h' past chk ∧ WD D l (past ++ [.skip]) ((k, v) :: e) t h' Q) : WD D ((.mk none (.env k) (.calv x xs), chk) :: l) past e t h Q := by
  obtain ⟨v, h1', hf, hc, ⟨t', h', h1, h2⟩⟩ := H.out
  subst ha
  refine ⟨⟨t', h', ?_, h2⟩⟩
  simp only [drGo, gdv, St1.g, St1.o, St1.d, Op1.run, hx, hf, paOf, hc.out, cond_true]
  exact h1
theorem wr_calv {l : List St1} {k f : Nat} {cs : List AV} {x : Od} {xs : List Od} {args : List AV} (hx : x.ev e t = .func f cs) (ha : (xs.map fun x => x.ev e t) = args) (H : WF D f (args ++ cs) h fun v h' => WR D l ((k, v) :: e) t h' Q) : WR D (.mk none (.env k) (.calv x xs) :: l) e t h Q := by
  obtain ⟨v, h', hf, ⟨r, h1, h2, h3⟩⟩ := H.out
  subst ha
  refine ⟨⟨r, ?_, h2, h3⟩⟩
  simp only [runRg, gdv, gdR, Op1.run, hx, hf, stepR]
  exact h1
theorem box2 (h : Hp X) (A B : List AV) : Bx ((h.push (.rw A)).push (.rw B)) h.n A ∧ Bx ((h.push (.rw A)).push (.rw B)) (h.push (.rw A)).n B ∧ Keep NoB h ((h.push (.rw A)).push (.rw B)) :=
  ⟨bx_push.up (Keep.push _ _ _), bx_push, (Keep.push NoB h (.rw A)).and (Keep.push NoB _ (.rw B))⟩
theorem box3 (h : Hp X) (A B C : List AV) : Bx (((h.push (.rw A)).push (.rw B)).push (.rw C)) h.n A ∧ Bx (((h.push (.rw A)).push (.rw B)).push (.rw C)) (h.push (.rw A)).n B ∧ Bx (((h.push (.rw A)).push (.rw B)).push (.rw C)) ((h.push (.rw A)).push (.rw B)).n C ∧ Keep NoB h (((h.push (.rw A)).push (.rw B)).push (.rw C)) ∧ (((h.push (.rw A)).push (.rw B)).push (.rw C)).n = h.n + 3 :=
  ⟨(bx_push.up (Keep.push _ _ _)).up (Keep.push _ _ _), bx_push.up (Keep.push _ _ _), bx_push, ((Keep.push NoB h (.rw A)).and (Keep.push NoB _ (.rw B))).and (Keep.push NoB _ (.rw C)), rfl⟩
end
structure I64Q (q : QQ) : Prop where
  n : I64 q.1
  d : I64 q.2
theorem RightQ.b {q : QQ} (a : RightQ q) : (-2147483647 ≤ q.1 ∧ q.1 ≤ 2147483647) ∧ 0 < q.2 ∧ q.2 ≤ 2147483647 := ⟨⟨a.n0, a.n1⟩, a.pos, a.top⟩
theorem RightQ.i64 {q : QQ} (a : RightQ q) : I64Q q := by
  obtain ⟨⟨h1, h2⟩, h3, h4⟩ := a.b
  exact ⟨⟨by omega, by omega⟩, ⟨by omega, by omega⟩⟩
section
variable {X : Type} {E : Nat → Option (Ent X)}
structure QaS (E : Nat → Option (Ent X)) : Prop extends QaT E where
  of : E 43 = some (.bc b_ratOf)
  right : E 39 = some (.bc b_ratRight)
  exact_ : E 63 = some (.bc b_ratExact)
  both : E 78 = some (.bc b_ratBoth)
  add : E 53 = some (.bc b_ratAdd)
  add1 : E 82 = some (.bc b_ratAdd1)
  sub : E 50 = some (.bc b_ratSub)
  sub1 : E 77 = some (.bc b_ratSub1)
  mul : E 52 = some (.bc b_ratMul)
  mul1 : E 81 = some (.bc b_ratMul1)
  div : E 44 = some (.bc b_ratDiv)
  div1 : E 64 = some (.bc b_ratDiv1)
  div2 : E 65 = some (.bc b_ratDiv2)
  cmp : E 59 = some (.bc b_ratCmp)
theorem rightq_ok (hE : ∀ f e, E f = some e → e.plain) (T : QaS E) {h : Hp X} {q : QQ} (hq : I64Q q) : WF (lim E) 39 [qv q] h fun x h' => Keep NoB h h' ∧ x = .bool (rightF q) := by
  refine wf_bc hE T.right rfl ?_
  simp only [b_ratRight, List.map, getS]
  have bx : Bx (h.push (.rw [.int .i64 q.1, .int .i64 q.2])) h.n [.int .i64 q.1, .int .i64 q.2] := bx_push
  have kp : Keep NoB h (h.push (.rw [.int .i64 q.1, .int .i64 q.2])) := Keep.push _ _ _
  repeat first|(refine BG ?_;first|(refine BH ?_;first|(refine BI ?_;refine BM ?_)|(refine BJ ?_;first|refine BN ?_|refine BO ?_)|refine BP ?_)|(refine BK ?_;first|refine BS rfl rfl ?_|refine BT rfl rfl ?_|refine BU rfl ?_)|(refine BL ?_;first|refine BW (ef_box rfl int_all2) ?_|refine BQ ?_)|(refine BR ?_;try simp only [setS]))|refine AA ?_|refine AC ?_|refine AD ?_|refine AE ?_|refine AF rfl rfl ?_|refine AG rfl rfl ?_|refine AH ?_|refine AI ?_|refine AJ ?_|refine AK ?_|refine AL ?_|refine AM ?_|refine AN ?_|refine AO ?_|refine AP ?_|refine AQ rfl ?_|refine AR ?_|refine AS ?_|refine AT rfl ?_|refine AU rfl ?_
  refine wr_heap (h' := h.push (.rw [.int .i64 q.1, .int .i64 q.2])) rfl ?_
  generalize h.push (.rw [.int .i64 q.1, .int .i64 q.2]) = h1 at *
  repeat first|(refine BG ?_;first|(refine BH ?_;first|(refine BI ?_;refine BM ?_)|(refine BJ ?_;first|refine BN ?_|refine BO ?_)|refine BV (v_bx bx rfl rfl) ?_|refine BP ?_)|(refine BK ?_;first|refine BS rfl rfl ?_|refine BT rfl rfl ?_|refine BU rfl ?_)|(refine BL ?_;first|refine BQ ?_)|(refine BR ?_;try simp only [setS]))|refine AA ?_|refine AC ?_|refine AD ?_|refine AE ?_|refine AF rfl rfl ?_|refine AG rfl rfl ?_|refine AH ?_|refine AI ?_|refine AJ ?_|refine AK ?_|refine AL ?_|refine AM ?_|refine AN ?_|refine AO ?_|refine AP ?_|refine AQ rfl ?_|refine AR ?_|refine AS ?_|refine AT rfl ?_|refine AU rfl ?_
  refine wr_call_e rfl ((newq_ok hE T.toQaT hq.n hq.d).mono fun x h2 ⟨k2, e2⟩ => ?_)
  subst e2
  have bx2 := bx.up k2
  generalize hN : newF q.1 q.2 = N at *
  obtain ⟨⟨n1, n2⟩, er⟩ := N
  have by2 : Bx (h2.push (.rw [.int .i64 0, .int .i64 0])) h2.n [.int .i64 0, .int .i64 0] := bx_push
  have kq : Keep NoB h2 (h2.push (.rw [.int .i64 0, .int .i64 0])) := Keep.push _ _ _
  have bx3 := bx2.up kq
  repeat first|(refine BG ?_;first|(refine BH ?_;first|(refine BI ?_;refine BM ?_)|(refine BJ ?_;first|refine BN ?_|refine BO ?_)|refine BP ?_)|(refine BK ?_;first|refine BS rfl rfl ?_|refine BT rfl rfl ?_|refine BU rfl ?_)|(refine BL ?_;first|refine BW (ef_bxn by2 rfl rfl rfl rfl (Nat.le_refl _)) ?_|refine BQ ?_)|(refine BR ?_;try simp only [setS]))|refine AA ?_|refine AC ?_|refine AD ?_|refine AE ?_|refine AF rfl rfl ?_|refine AG rfl rfl ?_|refine AH ?_|refine AI ?_|refine AJ ?_|refine AK ?_|refine AL ?_|refine AM ?_|refine AN ?_|refine AO ?_|refine AP ?_|refine AQ rfl ?_|refine AR ?_|refine AS ?_|refine AT rfl ?_|refine AU rfl ?_
  refine wr_heap (h' := (h2.push (.rw [.int .i64 0, .int .i64 0])).put h2.n (.rw [.int .i64 n1, .int .i64 n2])) rfl ?_
  have kr : Keep (OneB h2.n) (h2.push (.rw [.int .i64 0, .int .i64 0])) ((h2.push (.rw [.int .i64 0, .int .i64 0])).put h2.n (.rw [.int .i64 n1, .int .i64 n2])) := Keep.put _ _ _ rfl
  have k3 := kq.own kr (fun k q => Nat.le_of_eq q.symm)
  have by3 : Bx ((h2.push (.rw [.int .i64 0, .int .i64 0])).put h2.n (.rw [.int .i64 n1, .int .i64 n2])) h2.n [.int .i64 n1, .int .i64 n2] := by2.put
  have bx3 := bx2.up k3
  generalize (h2.push (.rw [.int .i64 0, .int .i64 0])).put h2.n (.rw [.int .i64 n1, .int .i64 n2]) = h3 at *
  have K3 := (kp.and k2).and k3
  unfold rightF
  rw [hN]
  by_cases h0 : 0 < q.2
  · rw [decide_eq_true h0, Bool.true_and]
    by_cases h1 : er = 0
    · subst h1
      repeat first|(refine BG ?_;first|(refine BH ?_;first|(refine BI ?_;refine BM ?_)|(refine BJ ?_;first|refine BN ?_|refine BO ?_)|refine BV (v_bx bx3 rfl rfl) ?_|refine BV (v_bxn by3 rfl (Nat.le_refl _)) ?_|refine BV (v_bxn bx3 rfl (Nat.le_refl _)) ?_|refine BV (v_seq2 (a := (n1, n2)) (b := q) rfl rfl) ?_|refine BP ?_)|(refine BK ?_;first|refine BS rfl rfl ?_|refine BT rfl rfl ?_|refine BU rfl ?_)|(refine BL ?_;first|refine BQ ?_)|(refine BR ?_;try simp only [setS]))|refine AA ?_|refine AC ?_|refine AD ?_|refine AE ?_|refine AF rfl rfl ?_|refine AG rfl rfl ?_|refine AH ?_|refine AI ?_|refine AJ ?_|refine AK ?_|refine AL ?_|refine AM ?_|refine AN ?_|refine AO ?_|refine AP ?_|refine AQ rfl ?_|refine AR ?_|refine AS ?_|refine AT rfl ?_|refine AU rfl ?_
      refine ⟨K3, ?_⟩
      show AV.bool (decide ((n1, n2) = q) != false) = _
      congr 1
      by_cases hq : ((n1, n2) : QQ) = q
      · rw [decide_eq_true hq, hq]; simp
      · rw [decide_eq_false hq, decide_eq_false (fun e => hq (congrArg Prod.fst e))]; rfl
    · rw [decide_eq_false (fun e => h1 (congrArg Prod.snd e))]
      repeat first|(refine BG ?_;first|(refine BH ?_;first|(refine BI ?_;refine BM ?_)|(refine BJ ?_;first|refine BN ?_|refine BO ?_)|refine BV (v_bx bx3 rfl rfl) ?_|refine BP ?_)|(refine BK ?_;first|refine BS rfl rfl ?_|refine BT rfl rfl ?_|refine BU rfl ?_)|(refine BL ?_;first|refine BQ ?_)|(refine BR ?_;try simp only [setS]))|refine AA ?_|refine AC ?_|refine AD ?_|refine AE ?_|refine AF rfl rfl ?_|refine AG rfl rfl ?_|refine AH ?_|refine AI ?_|refine AJ ?_|refine AK ?_|refine AL ?_|refine AM ?_|refine AN ?_|refine AO ?_|refine AP ?_|refine AQ rfl ?_|refine AR ?_|refine AS ?_|refine AT rfl ?_|refine AU rfl ?_
      exact ⟨K3, rfl⟩
  · rw [decide_eq_false h0, Bool.false_and]
    repeat first|(refine BG ?_;first|(refine BH ?_;first|(refine BI ?_;refine BM ?_)|(refine BJ ?_;first|refine BN ?_|refine BO ?_)|refine BV (v_bx bx3 rfl rfl) ?_|refine BP ?_)|(refine BK ?_;first|refine BS rfl rfl ?_|refine BT rfl rfl ?_|refine BU rfl ?_)|(refine BL ?_;first|refine BQ ?_)|(refine BR ?_;try simp only [setS]))|refine AA ?_|refine AC ?_|refine AD ?_|refine AE ?_|refine AF rfl rfl ?_|refine AG rfl rfl ?_|refine AH ?_|refine AI ?_|refine AJ ?_|refine AK ?_|refine AL ?_|refine AM ?_|refine AN ?_|refine AO ?_|refine AP ?_|refine AQ rfl ?_|refine AR ?_|refine AS ?_|refine AT rfl ?_|refine AU rfl ?_
    exact ⟨K3, rfl⟩
theorem both_ok (hE : ∀ f e, E f = some e → e.plain) (T : QaS E) {h : Hp X} {a b : QQ} (ha : RightQ a) (hb : RightQ b) : WF (lim E) 78 [qv a, qv b] h fun x h' => Keep NoB h h' ∧ x = .int .i64 (a.2 * b.2) := by
  refine wf_bc hE T.both rfl ?_
  simp only [b_ratBoth, List.map, getS]
  obtain ⟨bA, bB, kp⟩ := box2 h [.int .i64 a.1, .int .i64 a.2] [.int .i64 b.1, .int .i64 b.2]
  repeat first|(refine BG ?_;first|(refine BH ?_;first|(refine BI ?_;refine BM ?_)|(refine BJ ?_;first|refine BN ?_|refine BO ?_)|refine BV (v_bx bA rfl rfl) ?_|refine BV (v_bx bB rfl rfl) ?_|refine BV (v_muli rfl rfl (mulN ha.d hb.d)) ?_|refine BP ?_)|(refine BK ?_;first|refine BS rfl rfl ?_|refine BT rfl rfl ?_|refine BU rfl ?_)|(refine BL ?_;first|refine BW (ef_box rfl int_all2) ?_|refine BQ ?_)|(refine BR ?_;try simp only [setS]))|refine AA ?_|refine AC ?_|refine AD ?_|refine AE ?_|refine AF rfl rfl ?_|refine AG rfl rfl ?_|refine AH ?_|refine AI ?_|refine AJ ?_|refine AK ?_|refine AL ?_|refine AM ?_|refine AN ?_|refine AO ?_|refine AP ?_|refine AQ rfl ?_|refine AR ?_|refine AS ?_|refine AT rfl ?_|refine AU rfl ?_
  exact ⟨kp, rfl⟩
theorem add1_ok (hE : ∀ f e, E f = some e → e.plain) (T : QaS E) {h : Hp X} {a b : QQ} (ha : RightQ a) (hb : RightQ b) : WF (lim E) 82 [qv a, qv b] h fun x h' => Keep NoB h h' ∧ x = .int .i64 (a.1 * b.2 + b.1 * a.2) := by
  refine wf_bc hE T.add1 rfl ?_
  simp only [b_ratAdd1, List.map, getS]
  have m1 := mulN ha.n hb.d
  have m2 := mulN hb.n ha.d
  obtain ⟨bA, bB, kp⟩ := box2 h [.int .i64 a.1, .int .i64 a.2] [.int .i64 b.1, .int .i64 b.2]
  repeat first|(refine BG ?_;first|(refine BH ?_;first|(refine BI ?_;refine BM ?_)|(refine BJ ?_;first|refine BN ?_|refine BO ?_)|refine BV (v_bx bA rfl rfl) ?_|refine BV (v_bx bB rfl rfl) ?_|refine BV (v_muli rfl rfl m1) ?_|refine BV (v_muli rfl rfl m2) ?_|refine BV (v_add rfl rfl (by omega)) ?_|refine BP ?_)|(refine BK ?_;first|refine BS rfl rfl ?_|refine BT rfl rfl ?_|refine BU rfl ?_)|(refine BL ?_;first|refine BW (ef_box rfl int_all2) ?_|refine BQ ?_)|(refine BR ?_;try simp only [setS]))|refine AA ?_|refine AC ?_|refine AD ?_|refine AE ?_|refine AF rfl rfl ?_|refine AG rfl rfl ?_|refine AH ?_|refine AI ?_|refine AJ ?_|refine AK ?_|refine AL ?_|refine AM ?_|refine AN ?_|refine AO ?_|refine AP ?_|refine AQ rfl ?_|refine AR ?_|refine AS ?_|refine AT rfl ?_|refine AU rfl ?_
  exact ⟨kp, rfl⟩
theorem sub1_ok (hE : ∀ f e, E f = some e → e.plain) (T : QaS E) {h : Hp X} {a b : QQ} (ha : RightQ a) (hb : RightQ b) : WF (lim E) 77 [qv a, qv b] h fun x h' => Keep NoB h h' ∧ x = .int .i64 (a.1 * b.2 - b.1 * a.2) := by
  refine wf_bc hE T.sub1 rfl ?_
  simp only [b_ratSub1, List.map, getS]
  have m1 := mulN ha.n hb.d
  have m2 := mulN hb.n ha.d
  obtain ⟨bA, bB, kp⟩ := box2 h [.int .i64 a.1, .int .i64 a.2] [.int .i64 b.1, .int .i64 b.2]
  repeat first|(refine BG ?_;first|(refine BH ?_;first|(refine BI ?_;refine BM ?_)|(refine BJ ?_;first|refine BN ?_|refine BO ?_)|refine BV (v_bx bA rfl rfl) ?_|refine BV (v_bx bB rfl rfl) ?_|refine BV (v_muli rfl rfl m1) ?_|refine BV (v_muli rfl rfl m2) ?_|refine BV (v_subi rfl rfl (by omega)) ?_|refine BP ?_)|(refine BK ?_;first|refine BS rfl rfl ?_|refine BT rfl rfl ?_|refine BU rfl ?_)|(refine BL ?_;first|refine BW (ef_box rfl int_all2) ?_|refine BQ ?_)|(refine BR ?_;try simp only [setS]))|refine AA ?_|refine AC ?_|refine AD ?_|refine AE ?_|refine AF rfl rfl ?_|refine AG rfl rfl ?_|refine AH ?_|refine AI ?_|refine AJ ?_|refine AK ?_|refine AL ?_|refine AM ?_|refine AN ?_|refine AO ?_|refine AP ?_|refine AQ rfl ?_|refine AR ?_|refine AS ?_|refine AT rfl ?_|refine AU rfl ?_
  exact ⟨kp, rfl⟩
theorem mul1_ok (hE : ∀ f e, E f = some e → e.plain) (T : QaS E) {h : Hp X} {a b : QQ} (ha : RightQ a) (hb : RightQ b) : WF (lim E) 81 [qv a, qv b] h fun x h' => Keep NoB h h' ∧ x = .int .i64 (a.1 * b.1) := by
  refine wf_bc hE T.mul1 rfl ?_
  simp only [b_ratMul1, List.map, getS]
  obtain ⟨bA, bB, kp⟩ := box2 h [.int .i64 a.1, .int .i64 a.2] [.int .i64 b.1, .int .i64 b.2]
  repeat first|(refine BG ?_;first|(refine BH ?_;first|(refine BI ?_;refine BM ?_)|(refine BJ ?_;first|refine BN ?_|refine BO ?_)|refine BV (v_bx bA rfl rfl) ?_|refine BV (v_bx bB rfl rfl) ?_|refine BV (v_muli rfl rfl (mulN ha.n hb.n)) ?_|refine BP ?_)|(refine BK ?_;first|refine BS rfl rfl ?_|refine BT rfl rfl ?_|refine BU rfl ?_)|(refine BL ?_;first|refine BW (ef_box rfl int_all2) ?_|refine BQ ?_)|(refine BR ?_;try simp only [setS]))|refine AA ?_|refine AC ?_|refine AD ?_|refine AE ?_|refine AF rfl rfl ?_|refine AG rfl rfl ?_|refine AH ?_|refine AI ?_|refine AJ ?_|refine AK ?_|refine AL ?_|refine AM ?_|refine AN ?_|refine AO ?_|refine AP ?_|refine AQ rfl ?_|refine AR ?_|refine AS ?_|refine AT rfl ?_|refine AU rfl ?_
  exact ⟨kp, rfl⟩
theorem div1_ok (hE : ∀ f e, E f = some e → e.plain) (T : QaS E) {h : Hp X} {a b : QQ} (ha : RightQ a) (hb : RightQ b) : WF (lim E) 64 [qv a, qv b] h fun x h' => Keep NoB h h' ∧ x = .int .i64 (a.1 * b.2) := by
  refine wf_bc hE T.div1 rfl ?_
  simp only [b_ratDiv1, List.map, getS]
  obtain ⟨bA, bB, kp⟩ := box2 h [.int .i64 a.1, .int .i64 a.2] [.int .i64 b.1, .int .i64 b.2]
  repeat first|(refine BG ?_;first|(refine BH ?_;first|(refine BI ?_;refine BM ?_)|(refine BJ ?_;first|refine BN ?_|refine BO ?_)|refine BV (v_bx bA rfl rfl) ?_|refine BV (v_bx bB rfl rfl) ?_|refine BV (v_muli rfl rfl (mulN ha.n hb.d)) ?_|refine BP ?_)|(refine BK ?_;first|refine BS rfl rfl ?_|refine BT rfl rfl ?_|refine BU rfl ?_)|(refine BL ?_;first|refine BW (ef_box rfl int_all2) ?_|refine BQ ?_)|(refine BR ?_;try simp only [setS]))|refine AA ?_|refine AC ?_|refine AD ?_|refine AE ?_|refine AF rfl rfl ?_|refine AG rfl rfl ?_|refine AH ?_|refine AI ?_|refine AJ ?_|refine AK ?_|refine AL ?_|refine AM ?_|refine AN ?_|refine AO ?_|refine AP ?_|refine AQ rfl ?_|refine AR ?_|refine AS ?_|refine AT rfl ?_|refine AU rfl ?_
  exact ⟨kp, rfl⟩
theorem div2_ok (hE : ∀ f e, E f = some e → e.plain) (T : QaS E) {h : Hp X} {a b : QQ} (ha : RightQ a) (hb : RightQ b) : WF (lim E) 65 [qv a, qv b] h fun x h' => Keep NoB h h' ∧ x = .int .i64 (a.2 * b.1) := by
  refine wf_bc hE T.div2 rfl ?_
  simp only [b_ratDiv2, List.map, getS]
  obtain ⟨bA, bB, kp⟩ := box2 h [.int .i64 a.1, .int .i64 a.2] [.int .i64 b.1, .int .i64 b.2]
  repeat first|(refine BG ?_;first|(refine BH ?_;first|(refine BI ?_;refine BM ?_)|(refine BJ ?_;first|refine BN ?_|refine BO ?_)|refine BV (v_bx bA rfl rfl) ?_|refine BV (v_bx bB rfl rfl) ?_|refine BV (v_muli rfl rfl (mulN ha.d hb.n)) ?_|refine BP ?_)|(refine BK ?_;first|refine BS rfl rfl ?_|refine BT rfl rfl ?_|refine BU rfl ?_)|(refine BL ?_;first|refine BW (ef_box rfl int_all2) ?_|refine BQ ?_)|(refine BR ?_;try simp only [setS]))|refine AA ?_|refine AC ?_|refine AD ?_|refine AE ?_|refine AF rfl rfl ?_|refine AG rfl rfl ?_|refine AH ?_|refine AI ?_|refine AJ ?_|refine AK ?_|refine AL ?_|refine AM ?_|refine AN ?_|refine AO ?_|refine AP ?_|refine AQ rfl ?_|refine AR ?_|refine AS ?_|refine AT rfl ?_|refine AU rfl ?_
  exact ⟨kp, rfl⟩
theorem exactq_ok (hE : ∀ f e, E f = some e → e.plain) (T : QaS E) {h : Hp X} {a b : QQ} (ha : I64Q a) (hb : I64Q b) {f g : Nat} {N D : Int}
    (hf : RightQ a → RightQ b → I64 N ∧ ∀ hh : Hp X, WF (lim E) f [qv a, qv b] hh fun x h' => Keep NoB hh h' ∧ x = .int .i64 N) (hg : RightQ a → RightQ b → I64 D ∧ ∀ hh : Hp X, WF (lim E) g [qv a, qv b] hh fun x h' => Keep NoB hh h' ∧ x = .int .i64 D) :
    WF (lim E) 63 [qv a, qv b, .func f [], .func g []] h fun x h' => Keep NoB h h' ∧ x = qe (if rightF a && rightF b then newF N D else ((0, 0), 1)) := by
  refine wf_bc hE T.exact_ rfl ?_
  simp only [b_ratExact, List.map, getS]
  obtain ⟨bA, bB, bC, kp, hn3⟩ := box3 h [.int .i64 a.1, .int .i64 a.2] [.int .i64 b.1, .int .i64 b.2] [.int .i64 0, .int .i64 0]
  repeat first|(refine BG ?_;first|(refine BH ?_;first|(refine BI ?_;refine BM ?_)|(refine BJ ?_;first|refine BN ?_|refine BO ?_)|refine BV (v_bxn bA rfl (Nat.le_refl _)) ?_|refine BP ?_)|(refine BK ?_;first|refine BS rfl rfl ?_|refine BT rfl rfl ?_|refine BU rfl ?_)|(refine BL ?_;first|refine BW (ef_box rfl int_all2) ?_|refine BQ ?_)|(refine BR ?_;try simp only [setS]))|refine AA ?_|refine AC ?_|refine AD ?_|refine AE ?_|refine AF rfl rfl ?_|refine AG rfl rfl ?_|refine AH ?_|refine AI ?_|refine AJ ?_|refine AK ?_|refine AL ?_|refine AM ?_|refine AN ?_|refine AO ?_|refine AP ?_|refine AQ rfl ?_|refine AR ?_|refine AS ?_|refine AT rfl ?_|refine AU rfl ?_
  generalize ((h.push (.rw [.int .i64 a.1, .int .i64 a.2])).push (.rw [.int .i64 b.1, .int .i64 b.2])).push (.rw [.int .i64 0, .int .i64 0]) = h3 at *
  refine wr_call_e rfl ((rightq_ok hE T ha).mono fun x h4 ⟨k4, e4⟩ => ?_)
  subst e4
  have bA := bA.up k4
  have bB := bB.up k4
  have bC := bC.up k4
  have K4 := kp.and k4
  have fin0 : ∀ {hh : Hp X} (K : Keep NoB h hh) (bz : Bx hh ((h.push (.rw [.int .i64 a.1, .int .i64 a.2])).push (.rw [.int .i64 b.1, .int .i64 b.2])).n [.int .i64 0, .int .i64 0]) {q : QQ}, Keep NoB h (hh.put ((h.push (.rw [.int .i64 a.1, .int .i64 a.2])).push (.rw [.int .i64 b.1, .int .i64 b.2])).n (.rw [.int .i64 q.1, .int .i64 q.2])) := fun {hh} K bz {q} =>
    K.own (Keep.put _ _ _ (S := OneB (((h.push (.rw [.int .i64 a.1, .int .i64 a.2])).push (.rw [.int .i64 b.1, .int .i64 b.2])).n)) rfl) (fun k q => by have q : k = h.n + 2 := q; omega)
  rcases Bool.eq_false_or_eq_true (rightF a) with hra | hra
  case' inr =>
    rw [hra, Bool.false_and]
    repeat first|(refine BG ?_;first|(refine BH ?_;first|(refine BI ?_;refine BM ?_)|(refine BJ ?_;first|refine BN ?_|refine BO ?_)|refine BP ?_)|(refine BK ?_;first|refine BS rfl rfl ?_|refine BT rfl rfl ?_|refine BU rfl ?_)|(refine BL ?_;first|refine BW (ef_bxn bC rfl rfl rfl rfl (Nat.le_refl _)) ?_|refine BQ ?_)|(refine BR ?_;try simp only [setS]))|refine AA ?_|refine AC ?_|refine AD ?_|refine AE ?_|refine AF rfl rfl ?_|refine AG rfl rfl ?_|refine AH ?_|refine AI ?_|refine AJ ?_|refine AK ?_|refine AL ?_|refine AM ?_|refine AN ?_|refine AO ?_|refine AP ?_|refine AQ rfl ?_|refine AR ?_|refine AS ?_|refine AT rfl ?_|refine AU rfl ?_
    exact fin_q (q := (0, 0)) (er := 1) bC.put rfl rfl ⟨fin0 K4 bC (q := (0, 0)), rfl⟩
  rw [hra, Bool.true_and]
  repeat first|(refine BG ?_;first|(refine BH ?_;first|(refine BI ?_;refine BM ?_)|(refine BJ ?_;first|refine BN ?_|refine BO ?_)|refine BV (v_bxn bB rfl (Nat.le_refl _)) ?_|refine BP ?_)|(refine BK ?_;first|refine BS rfl rfl ?_|refine BT rfl rfl ?_|refine BU rfl ?_)|(refine BL ?_;first|refine BQ ?_)|(refine BR ?_;try simp only [setS]))|refine AA ?_|refine AC ?_|refine AD ?_|refine AE ?_|refine AF rfl rfl ?_|refine AG rfl rfl ?_|refine AH ?_|refine AI ?_|refine AJ ?_|refine AK ?_|refine AL ?_|refine AM ?_|refine AN ?_|refine AO ?_|refine AP ?_|refine AQ rfl ?_|refine AR ?_|refine AS ?_|refine AT rfl ?_|refine AU rfl ?_
  refine wr_call_e rfl ((rightq_ok hE T hb).mono fun x h5 ⟨k5, e5⟩ => ?_)
  subst e5
  have bA := bA.up k5
  have bB := bB.up k5
  have bC := bC.up k5
  have K5 := K4.and k5
  rcases Bool.eq_false_or_eq_true (rightF b) with hrb | hrb
  case' inr =>
    rw [hrb]
    repeat first|(refine BG ?_;first|(refine BH ?_;first|(refine BI ?_;refine BM ?_)|(refine BJ ?_;first|refine BN ?_|refine BO ?_)|refine BP ?_)|(refine BK ?_;first|refine BS rfl rfl ?_|refine BT rfl rfl ?_|refine BU rfl ?_)|(refine BL ?_;first|refine BW (ef_bxn bC rfl rfl rfl rfl (Nat.le_refl _)) ?_|refine BQ ?_)|(refine BR ?_;try simp only [setS]))|refine AA ?_|refine AC ?_|refine AD ?_|refine AE ?_|refine AF rfl rfl ?_|refine AG rfl rfl ?_|refine AH ?_|refine AI ?_|refine AJ ?_|refine AK ?_|refine AL ?_|refine AM ?_|refine AN ?_|refine AO ?_|refine AP ?_|refine AQ rfl ?_|refine AR ?_|refine AS ?_|refine AT rfl ?_|refine AU rfl ?_
    exact fin_q (q := (0, 0)) (er := 1) bC.put rfl rfl ⟨fin0 K5 bC (q := (0, 0)), rfl⟩
  rw [hrb]
  obtain ⟨hN, hf⟩ := hf (right_iff.1 hra) (right_iff.1 hrb)
  obtain ⟨hD, hg⟩ := hg (right_iff.1 hra) (right_iff.1 hrb)
  repeat first|(refine BG ?_;first|(refine BH ?_;first|(refine BI ?_;refine BM ?_)|(refine BJ ?_;first|refine BN ?_|refine BO ?_)|refine BP ?_)|(refine BK ?_;first|refine BS rfl rfl ?_|refine BT rfl rfl ?_|refine BU rfl ?_)|(refine BL ?_;first|refine BQ ?_)|(refine BR ?_;try simp only [setS]))|refine AA ?_|refine AC ?_|refine AD ?_|refine AF rfl rfl ?_|refine AG rfl rfl ?_|refine AH ?_|refine AI ?_|refine AJ ?_|refine AK ?_|refine AL ?_|refine AM ?_|refine AN ?_|refine AO ?_|refine AP ?_|refine AQ rfl ?_|refine AR ?_|refine AS ?_|refine AT rfl ?_|refine AU rfl ?_
  repeat first|(refine BG ?_;first|(refine BH ?_;first|(refine BI ?_;refine BM ?_)|(refine BJ ?_;first|refine BN ?_|refine BO ?_)|refine BV (v_bxn bA rfl (Nat.le_refl _)) ?_|refine BV (v_bxn bB rfl (Nat.le_refl _)) ?_|refine BP ?_)|(refine BK ?_;first|refine BS rfl rfl ?_|refine BT rfl rfl ?_|refine BU rfl ?_)|(refine BL ?_;first|refine BQ ?_)|(refine BR ?_;try simp only [setS]))|(refine BX ?_;first|refine BY rfl ?_|(refine BZ ?_;refine CA ?_)|refine CB (v_bxn bA rfl (Nat.le_refl _)) ?_|refine CB (v_bxn bB rfl (Nat.le_refl _)) ?_|refine CC ?_|(refine CD ?_;try simp only [setS]))|refine AA ?_|refine AC ?_|refine AD ?_|refine AE ?_|refine AF rfl rfl ?_|refine AG rfl rfl ?_|refine AH ?_|refine AI ?_|refine AJ ?_|refine AK ?_|refine AL ?_|refine AM ?_|refine AN ?_|refine AO ?_|refine AP ?_|refine AQ rfl ?_|refine AR ?_|refine AS ?_|refine AT rfl ?_|refine AU rfl ?_
  refine wd_calv rfl rfl ((hf _).mono fun x h6 ⟨k6, e6⟩ => ?_)
  subst e6
  have bA := bA.up k6
  have bB := bB.up k6
  have bC := bC.up k6
  refine ⟨(by (try simp only [List.nil_append, List.cons_append]);repeat first|exact chk_nil|(apply chk_at;(focus exact rfl);first|exact pa_skp|(refine pa_mov ?_;first|exact (v_bxn bA rfl (Nat.le_refl _))|exact (v_bxn bB rfl (Nat.le_refl _))|exact rfl))), ?_⟩
  repeat first|(refine BG ?_;first|(refine BH ?_;first|(refine BI ?_;refine BM ?_)|(refine BJ ?_;first|refine BN ?_|refine BO ?_)|refine BP ?_)|(refine BK ?_;first|refine BS rfl rfl ?_|refine BT rfl rfl ?_|refine BU rfl ?_)|(refine BL ?_;first|refine BQ ?_)|(refine BR ?_;try simp only [setS]))|(refine BX ?_;first|refine BY rfl ?_|(refine BZ ?_;refine CA ?_)|refine CC ?_|(refine CD ?_;try simp only [setS]))|refine AA ?_|refine AC ?_|refine AD ?_|refine AE ?_|refine AF rfl rfl ?_|refine AG rfl rfl ?_|refine AH ?_|refine AI ?_|refine AJ ?_|refine AK ?_|refine AL ?_|refine AM ?_|refine AN ?_|refine AO ?_|refine AP ?_|refine AQ rfl ?_|refine AR ?_|refine AS ?_|refine AT rfl ?_|refine AU rfl ?_
  refine wd_calv rfl rfl ((hg _).mono fun x h7 ⟨k7, e7⟩ => ?_)
  subst e7
  refine ⟨chk_nil, ?_⟩
  repeat first|(refine BG ?_;first|(refine BH ?_;first|(refine BI ?_;refine BM ?_)|(refine BJ ?_;first|refine BN ?_|refine BO ?_)|refine BP ?_)|(refine BK ?_;first|refine BS rfl rfl ?_|refine BT rfl rfl ?_|refine BU rfl ?_)|(refine BL ?_;first|refine BQ ?_)|(refine BR ?_;try simp only [setS]))|(refine BX ?_;first|refine BY rfl ?_|(refine BZ ?_;refine CA ?_)|refine CC ?_|(refine CD ?_;try simp only [setS]))|refine AA ?_|refine AC ?_|refine AD ?_|refine AE ?_|refine AF rfl rfl ?_|refine AG rfl rfl ?_|refine AH ?_|refine AI ?_|refine AJ ?_|refine AK ?_|refine AL ?_|refine AM ?_|refine AN ?_|refine AO ?_|refine AP ?_|refine AQ rfl ?_|refine AR ?_|refine AS ?_|refine AT rfl ?_|refine AU rfl ?_
  refine wd_calls_e rfl ((newq_ok hE T.toQaT hN hD).mono fun x h8 ⟨k8, e8⟩ => ?_)
  subst e8
  have bC := (bC.up k7).up k8
  have K8 := ((K5.and k6).and k7).and k8
  generalize newF N D = r at *
  obtain ⟨⟨n1, n2⟩, er⟩ := r
  refine ⟨chk_nil, ?_⟩
  repeat first|(refine BG ?_;first|(refine BH ?_;first|(refine BI ?_;refine BM ?_)|(refine BJ ?_;first|refine BN ?_|refine BO ?_)|refine BP ?_)|(refine BK ?_;first|refine BS rfl rfl ?_|refine BT rfl rfl ?_|refine BU rfl ?_)|(refine BL ?_;first|refine BQ ?_)|(refine BR ?_;try simp only [setS]))|(refine BX ?_;first|refine BY rfl ?_|(refine BZ ?_;refine CA ?_)|refine CC ?_|(refine CD ?_;try simp only [setS]))|refine AA ?_|refine AC ?_|refine AD ?_|refine AE ?_|refine AF rfl rfl ?_|refine AG rfl rfl ?_|refine AH ?_|refine AI ?_|refine AJ ?_|refine AK ?_|refine AL ?_|refine AM ?_|refine AN ?_|refine AO ?_|refine AP ?_|refine AQ rfl ?_|refine AR ?_|refine AS ?_|refine AT rfl ?_|refine AU rfl ?_
  refine wd_ef (ef_bxn bC rfl rfl rfl rfl (Nat.le_refl _)) chk_nil ?_
  repeat first|(refine BG ?_;first|(refine BH ?_;first|(refine BI ?_;refine BM ?_)|(refine BJ ?_;first|refine BN ?_|refine BO ?_)|refine BP ?_)|(refine BK ?_;first|refine BS rfl rfl ?_|refine BT rfl rfl ?_|refine BU rfl ?_)|(refine BL ?_;first|refine BQ ?_)|(refine BR ?_;try simp only [setS]))|(refine BX ?_;first|refine BY rfl ?_|(refine BZ ?_;refine CA ?_)|refine CC ?_|(refine CD ?_;try simp only [setS]))|refine AA ?_|refine AC ?_|refine AD ?_|refine AE ?_|refine AF rfl rfl ?_|refine AG rfl rfl ?_|refine AH ?_|refine AI ?_|refine AJ ?_|refine AK ?_|refine AL ?_|refine AM ?_|refine AN ?_|refine AO ?_|refine AP ?_|refine AQ rfl ?_|refine AR ?_|refine AS ?_|refine AT rfl ?_|refine AU rfl ?_
  exact fin_q (q := (n1, n2)) (er := er) bC.put rfl rfl ⟨fin0 K8 bC (q := (n1, n2)), rfl⟩
theorem mulI {x y : Int} (h : -4611686014132420609 ≤ x * y ∧ x * y ≤ 4611686014132420609) : I64 (x * y) := ⟨by omega, by omega⟩
theorem addq_ok (hE : ∀ f e, E f = some e → e.plain) (T : QaS E) {h : Hp X} {a b : QQ} (ha : I64Q a) (hb : I64Q b) : WF (lim E) 53 [qv a, qv b] h fun x h' => Keep NoB h h' ∧ x = qe (addF a b) := by
  refine wf_bc hE T.add rfl ?_
  simp only [b_ratAdd, List.map, getS]
  obtain ⟨bA, bB, bC, kp, hn3⟩ := box3 h [.int .i64 a.1, .int .i64 a.2] [.int .i64 b.1, .int .i64 b.2] [.int .i64 0, .int .i64 0]
  repeat first|(refine BG ?_;first|(refine BH ?_;first|(refine BI ?_;refine BM ?_)|(refine BJ ?_;first|refine BN ?_|refine BO ?_)|refine BV (v_bxn bA rfl (Nat.le_refl _)) ?_|refine BV (v_bxn bB rfl (Nat.le_refl _)) ?_|refine BP ?_)|(refine BK ?_;first|refine BS rfl rfl ?_|refine BT rfl rfl ?_|refine BU rfl ?_)|(refine BL ?_;first|refine BW (ef_box rfl int_all2) ?_|refine BQ ?_)|(refine BR ?_;try simp only [setS]))|refine AA ?_|refine AC ?_|refine AD ?_|refine AE ?_|refine AF rfl rfl ?_|refine AG rfl rfl ?_|refine AH ?_|refine AI ?_|refine AJ ?_|refine AK ?_|refine AL ?_|refine AM ?_|refine AN ?_|refine AO ?_|refine AP ?_|refine AQ rfl ?_|refine AR ?_|refine AS ?_|refine AT rfl ?_|refine AU rfl ?_
  refine wr_call_e rfl ((exactq_ok hE T ha hb (N := a.1 * b.2 + b.1 * a.2) (D := a.2 * b.2) (fun x y => ⟨(by have m1 := mulN x.n y.d; have m2 := mulN y.n x.d; exact ⟨by omega, by omega⟩), fun hh => add1_ok hE T x y⟩) (fun x y => ⟨mulI (mulN x.d y.d), fun hh => both_ok hE T x y⟩)).mono fun x h4 ⟨k4, e4⟩ => ?_)
  subst e4
  have bC := bC.up k4
  unfold addF
  generalize (if rightF a && rightF b then newF (a.1 * b.2 + b.1 * a.2) (a.2 * b.2) else ((0, 0), 1)) = r at *
  obtain ⟨⟨n1, n2⟩, er⟩ := r
  repeat first|(refine BG ?_;first|(refine BH ?_;first|(refine BI ?_;refine BM ?_)|(refine BJ ?_;first|refine BN ?_|refine BO ?_)|refine BP ?_)|(refine BK ?_;first|refine BS rfl rfl ?_|refine BT rfl rfl ?_|refine BU rfl ?_)|(refine BL ?_;first|refine BW (ef_bxn bC rfl rfl rfl rfl (Nat.le_refl _)) ?_|refine BQ ?_)|(refine BR ?_;try simp only [setS]))|refine AA ?_|refine AC ?_|refine AD ?_|refine AE ?_|refine AF rfl rfl ?_|refine AG rfl rfl ?_|refine AH ?_|refine AI ?_|refine AJ ?_|refine AK ?_|refine AL ?_|refine AM ?_|refine AN ?_|refine AO ?_|refine AP ?_|refine AQ rfl ?_|refine AR ?_|refine AS ?_|refine AT rfl ?_|refine AU rfl ?_
  exact fin_q (q := (n1, n2)) (er := er) bC.put rfl rfl ⟨(kp.and k4).own (Keep.put _ _ _ (S := OneB (h.n + 2)) rfl) (fun k q => by have q : k = h.n + 2 := q; omega), rfl⟩
theorem subq_ok (hE : ∀ f e, E f = some e → e.plain) (T : QaS E) {h : Hp X} {a b : QQ} (ha : I64Q a) (hb : I64Q b) : WF (lim E) 50 [qv a, qv b] h fun x h' => Keep NoB h h' ∧ x = qe (subF a b) := by
  refine wf_bc hE T.sub rfl ?_
  simp only [b_ratSub, List.map, getS]
  obtain ⟨bA, bB, bC, kp, hn3⟩ := box3 h [.int .i64 a.1, .int .i64 a.2] [.int .i64 b.1, .int .i64 b.2] [.int .i64 0, .int .i64 0]
  repeat first|(refine BG ?_;first|(refine BH ?_;first|(refine BI ?_;refine BM ?_)|(refine BJ ?_;first|refine BN ?_|refine BO ?_)|refine BV (v_bxn bA rfl (Nat.le_refl _)) ?_|refine BV (v_bxn bB rfl (Nat.le_refl _)) ?_|refine BP ?_)|(refine BK ?_;first|refine BS rfl rfl ?_|refine BT rfl rfl ?_|refine BU rfl ?_)|(refine BL ?_;first|refine BW (ef_box rfl int_all2) ?_|refine BQ ?_)|(refine BR ?_;try simp only [setS]))|refine AA ?_|refine AC ?_|refine AD ?_|refine AE ?_|refine AF rfl rfl ?_|refine AG rfl rfl ?_|refine AH ?_|refine AI ?_|refine AJ ?_|refine AK ?_|refine AL ?_|refine AM ?_|refine AN ?_|refine AO ?_|refine AP ?_|refine AQ rfl ?_|refine AR ?_|refine AS ?_|refine AT rfl ?_|refine AU rfl ?_
  refine wr_call_e rfl ((exactq_ok hE T ha hb (N := a.1 * b.2 - b.1 * a.2) (D := a.2 * b.2) (fun x y => ⟨(by have m1 := mulN x.n y.d; have m2 := mulN y.n x.d; exact ⟨by omega, by omega⟩), fun hh => sub1_ok hE T x y⟩) (fun x y => ⟨mulI (mulN x.d y.d), fun hh => both_ok hE T x y⟩)).mono fun x h4 ⟨k4, e4⟩ => ?_)
  subst e4
  have bC := bC.up k4
  unfold subF
  generalize (if rightF a && rightF b then newF (a.1 * b.2 - b.1 * a.2) (a.2 * b.2) else ((0, 0), 1)) = r at *
  obtain ⟨⟨n1, n2⟩, er⟩ := r
  repeat first|(refine BG ?_;first|(refine BH ?_;first|(refine BI ?_;refine BM ?_)|(refine BJ ?_;first|refine BN ?_|refine BO ?_)|refine BP ?_)|(refine BK ?_;first|refine BS rfl rfl ?_|refine BT rfl rfl ?_|refine BU rfl ?_)|(refine BL ?_;first|refine BW (ef_bxn bC rfl rfl rfl rfl (Nat.le_refl _)) ?_|refine BQ ?_)|(refine BR ?_;try simp only [setS]))|refine AA ?_|refine AC ?_|refine AD ?_|refine AE ?_|refine AF rfl rfl ?_|refine AG rfl rfl ?_|refine AH ?_|refine AI ?_|refine AJ ?_|refine AK ?_|refine AL ?_|refine AM ?_|refine AN ?_|refine AO ?_|refine AP ?_|refine AQ rfl ?_|refine AR ?_|refine AS ?_|refine AT rfl ?_|refine AU rfl ?_
  exact fin_q (q := (n1, n2)) (er := er) bC.put rfl rfl ⟨(kp.and k4).own (Keep.put _ _ _ (S := OneB (h.n + 2)) rfl) (fun k q => by have q : k = h.n + 2 := q; omega), rfl⟩
theorem mulq_ok (hE : ∀ f e, E f = some e → e.plain) (T : QaS E) {h : Hp X} {a b : QQ} (ha : I64Q a) (hb : I64Q b) : WF (lim E) 52 [qv a, qv b] h fun x h' => Keep NoB h h' ∧ x = qe (mulF a b) := by
  refine wf_bc hE T.mul rfl ?_
  simp only [b_ratMul, List.map, getS]
  obtain ⟨bA, bB, bC, kp, hn3⟩ := box3 h [.int .i64 a.1, .int .i64 a.2] [.int .i64 b.1, .int .i64 b.2] [.int .i64 0, .int .i64 0]
  repeat first|(refine BG ?_;first|(refine BH ?_;first|(refine BI ?_;refine BM ?_)|(refine BJ ?_;first|refine BN ?_|refine BO ?_)|refine BV (v_bxn bA rfl (Nat.le_refl _)) ?_|refine BV (v_bxn bB rfl (Nat.le_refl _)) ?_|refine BP ?_)|(refine BK ?_;first|refine BS rfl rfl ?_|refine BT rfl rfl ?_|refine BU rfl ?_)|(refine BL ?_;first|refine BW (ef_box rfl int_all2) ?_|refine BQ ?_)|(refine BR ?_;try simp only [setS]))|refine AA ?_|refine AC ?_|refine AD ?_|refine AE ?_|refine AF rfl rfl ?_|refine AG rfl rfl ?_|refine AH ?_|refine AI ?_|refine AJ ?_|refine AK ?_|refine AL ?_|refine AM ?_|refine AN ?_|refine AO ?_|refine AP ?_|refine AQ rfl ?_|refine AR ?_|refine AS ?_|refine AT rfl ?_|refine AU rfl ?_
  refine wr_call_e rfl ((exactq_ok hE T ha hb (N := a.1 * b.1) (D := a.2 * b.2) (fun x y => ⟨mulI (mulN x.n y.n), fun hh => mul1_ok hE T x y⟩) (fun x y => ⟨mulI (mulN x.d y.d), fun hh => both_ok hE T x y⟩)).mono fun x h4 ⟨k4, e4⟩ => ?_)
  subst e4
  have bC := bC.up k4
  unfold mulF
  generalize (if rightF a && rightF b then newF (a.1 * b.1) (a.2 * b.2) else ((0, 0), 1)) = r at *
  obtain ⟨⟨n1, n2⟩, er⟩ := r
  repeat first|(refine BG ?_;first|(refine BH ?_;first|(refine BI ?_;refine BM ?_)|(refine BJ ?_;first|refine BN ?_|refine BO ?_)|refine BP ?_)|(refine BK ?_;first|refine BS rfl rfl ?_|refine BT rfl rfl ?_|refine BU rfl ?_)|(refine BL ?_;first|refine BW (ef_bxn bC rfl rfl rfl rfl (Nat.le_refl _)) ?_|refine BQ ?_)|(refine BR ?_;try simp only [setS]))|refine AA ?_|refine AC ?_|refine AD ?_|refine AE ?_|refine AF rfl rfl ?_|refine AG rfl rfl ?_|refine AH ?_|refine AI ?_|refine AJ ?_|refine AK ?_|refine AL ?_|refine AM ?_|refine AN ?_|refine AO ?_|refine AP ?_|refine AQ rfl ?_|refine AR ?_|refine AS ?_|refine AT rfl ?_|refine AU rfl ?_
  exact fin_q (q := (n1, n2)) (er := er) bC.put rfl rfl ⟨(kp.and k4).own (Keep.put _ _ _ (S := OneB (h.n + 2)) rfl) (fun k q => by have q : k = h.n + 2 := q; omega), rfl⟩
theorem divq_ok (hE : ∀ f e, E f = some e → e.plain) (T : QaS E) {h : Hp X} {a b : QQ} (ha : I64Q a) (hb : I64Q b) : WF (lim E) 44 [qv a, qv b] h fun x h' => Keep NoB h h' ∧ x = qe (divF a b) := by
  refine wf_bc hE T.div rfl ?_
  simp only [b_ratDiv, List.map, getS]
  obtain ⟨bA, bB, bC, kp, hn3⟩ := box3 h [.int .i64 a.1, .int .i64 a.2] [.int .i64 b.1, .int .i64 b.2] [.int .i64 0, .int .i64 0]
  repeat first|(refine BG ?_;first|(refine BH ?_;first|(refine BI ?_;refine BM ?_)|(refine BJ ?_;first|refine BN ?_|refine BO ?_)|refine BV (v_bxn bA rfl (Nat.le_refl _)) ?_|refine BV (v_bxn bB rfl (Nat.le_refl _)) ?_|refine BP ?_)|(refine BK ?_;first|refine BS rfl rfl ?_|refine BT rfl rfl ?_|refine BU rfl ?_)|(refine BL ?_;first|refine BW (ef_box rfl int_all2) ?_|refine BQ ?_)|(refine BR ?_;try simp only [setS]))|refine AA ?_|refine AC ?_|refine AD ?_|refine AE ?_|refine AF rfl rfl ?_|refine AG rfl rfl ?_|refine AH ?_|refine AI ?_|refine AJ ?_|refine AK ?_|refine AL ?_|refine AM ?_|refine AN ?_|refine AO ?_|refine AP ?_|refine AQ rfl ?_|refine AR ?_|refine AS ?_|refine AT rfl ?_|refine AU rfl ?_
  refine wr_call_e rfl ((exactq_ok hE T ha hb (N := a.1 * b.2) (D := a.2 * b.1) (fun x y => ⟨mulI (mulN x.n y.d), fun hh => div1_ok hE T x y⟩) (fun x y => ⟨mulI (mulN x.d y.n), fun hh => div2_ok hE T x y⟩)).mono fun x h4 ⟨k4, e4⟩ => ?_)
  subst e4
  have bC := bC.up k4
  unfold divF
  generalize (if rightF a && rightF b then newF (a.1 * b.2) (a.2 * b.1) else ((0, 0), 1)) = r at *
  obtain ⟨⟨n1, n2⟩, er⟩ := r
  repeat first|(refine BG ?_;first|(refine BH ?_;first|(refine BI ?_;refine BM ?_)|(refine BJ ?_;first|refine BN ?_|refine BO ?_)|refine BP ?_)|(refine BK ?_;first|refine BS rfl rfl ?_|refine BT rfl rfl ?_|refine BU rfl ?_)|(refine BL ?_;first|refine BW (ef_bxn bC rfl rfl rfl rfl (Nat.le_refl _)) ?_|refine BQ ?_)|(refine BR ?_;try simp only [setS]))|refine AA ?_|refine AC ?_|refine AD ?_|refine AE ?_|refine AF rfl rfl ?_|refine AG rfl rfl ?_|refine AH ?_|refine AI ?_|refine AJ ?_|refine AK ?_|refine AL ?_|refine AM ?_|refine AN ?_|refine AO ?_|refine AP ?_|refine AQ rfl ?_|refine AR ?_|refine AS ?_|refine AT rfl ?_|refine AU rfl ?_
  exact fin_q (q := (n1, n2)) (er := er) bC.put rfl rfl ⟨(kp.and k4).own (Keep.put _ _ _ (S := OneB (h.n + 2)) rfl) (fun k q => by have q : k = h.n + 2 := q; omega), rfl⟩
def cmpF (a b : QQ) : Int := if rightF a = false ∧ rightF b = false then 0 else if rightF a = false then -1 else if rightF b = false then 1 else cmpQ a b
theorem cmpq_ok (hE : ∀ f e, E f = some e → e.plain) (T : QaS E) {h : Hp X} {a b : QQ} (ha : I64Q a) (hb : I64Q b) : WF (lim E) 59 [qv a, qv b] h fun x h' => Keep NoB h h' ∧ x = .int .i64 (cmpF a b) := by
  refine wf_bc hE T.cmp rfl ?_
  simp only [b_ratCmp, List.map, getS]
  obtain ⟨bA, bB, kp⟩ := box2 h [.int .i64 a.1, .int .i64 a.2] [.int .i64 b.1, .int .i64 b.2]
  repeat first|(refine BG ?_;first|(refine BH ?_;first|(refine BI ?_;refine BM ?_)|(refine BJ ?_;first|refine BN ?_|refine BO ?_)|refine BP ?_)|(refine BK ?_;first|refine BS rfl rfl ?_|refine BT rfl rfl ?_|refine BU rfl ?_)|(refine BL ?_;first|refine BW (ef_box rfl int_all2) ?_|refine BQ ?_)|(refine BR ?_;try simp only [setS]))|refine AA ?_|refine AC ?_|refine AD ?_|refine AF rfl rfl ?_|refine AG rfl rfl ?_|refine AH ?_|refine AI ?_|refine AJ ?_|refine AK ?_|refine AL ?_|refine AM ?_|refine AN ?_|refine AO ?_|refine AP ?_|refine AQ rfl ?_|refine AR ?_|refine AS ?_|refine AT rfl ?_|refine AU rfl ?_
  repeat first|(refine BG ?_;first|(refine BH ?_;first|(refine BI ?_;refine BM ?_)|(refine BJ ?_;first|refine BN ?_|refine BO ?_)|refine BV (v_bxn bA rfl (Nat.le_refl _)) ?_|refine BV (v_bxn bB rfl (Nat.le_refl _)) ?_|refine BP ?_)|(refine BK ?_;first|refine BS rfl rfl ?_|refine BT rfl rfl ?_|refine BU rfl ?_)|(refine BL ?_;first|refine BQ ?_)|(refine BR ?_;try simp only [setS]))|(refine BX ?_;first|refine BY rfl ?_|(refine BZ ?_;refine CA ?_)|refine CB (v_bxn bA rfl (Nat.le_refl _)) ?_|refine CB (v_bxn bB rfl (Nat.le_refl _)) ?_|refine CC ?_|(refine CD ?_;try simp only [setS]))|refine AA ?_|refine AC ?_|refine AD ?_|refine AE ?_|refine AF rfl rfl ?_|refine AG rfl rfl ?_|refine AH ?_|refine AI ?_|refine AJ ?_|refine AK ?_|refine AL ?_|refine AM ?_|refine AN ?_|refine AO ?_|refine AP ?_|refine AQ rfl ?_|refine AR ?_|refine AS ?_|refine AT rfl ?_|refine AU rfl ?_
  refine wd_calls_e rfl ((rightq_ok hE T ha).mono fun x h4 ⟨k4, e4⟩ => ?_)
  subst e4
  have bA := bA.up k4
  have bB := bB.up k4
  refine ⟨(by (try simp only [List.nil_append, List.cons_append]);repeat first|exact chk_nil|(apply chk_at;(focus exact rfl);first|exact pa_skp|(refine pa_mov ?_;first|exact (v_bxn bB rfl (Nat.le_refl _))|exact rfl))), ?_⟩
  repeat first|(refine BG ?_;first|(refine BH ?_;first|(refine BI ?_;refine BM ?_)|(refine BJ ?_;first|refine BN ?_|refine BO ?_)|refine BP ?_)|(refine BK ?_;first|refine BS rfl rfl ?_|refine BT rfl rfl ?_|refine BU rfl ?_)|(refine BL ?_;first|refine BQ ?_)|(refine BR ?_;try simp only [setS]))|(refine BX ?_;first|refine BY rfl ?_|(refine BZ ?_;refine CA ?_)|refine CC ?_|(refine CD ?_;try simp only [setS]))|refine AA ?_|refine AC ?_|refine AD ?_|refine AE ?_|refine AF rfl rfl ?_|refine AG rfl rfl ?_|refine AH ?_|refine AI ?_|refine AJ ?_|refine AK ?_|refine AL ?_|refine AM ?_|refine AN ?_|refine AO ?_|refine AP ?_|refine AQ rfl ?_|refine AR ?_|refine AS ?_|refine AT rfl ?_|refine AU rfl ?_
  refine wd_calls_e rfl ((rightq_ok hE T hb).mono fun x h5 ⟨k5, e5⟩ => ?_)
  subst e5
  have bA := bA.up k5
  have bB := bB.up k5
  have K5 := (kp.and k4).and k5
  refine ⟨chk_nil, ?_⟩
  unfold cmpF
  rcases Bool.eq_false_or_eq_true (rightF a) with hra | hra
  · rcases Bool.eq_false_or_eq_true (rightF b) with hrb | hrb
    · have x := right_iff.1 hra
      have y := right_iff.1 hrb
      rw [if_neg (by rw [hra]; simp), if_neg (by rw [hra]; simp), if_neg (by rw [hrb]; simp)]
      rw [hra, hrb]
      unfold cmpQ
      have m1 := mulN x.n y.d
      have m2 := mulN y.n x.d
      by_cases h1 : a.1 * b.2 < b.1 * a.2
      · rw [if_pos h1]
        repeat first|(refine BG ?_;first|(refine BH ?_;first|(refine BI ?_;refine BM ?_)|(refine BJ ?_;first|refine BN ?_|refine BO ?_)|refine BP ?_)|(refine BK ?_;first|refine BS rfl rfl ?_|refine BT rfl rfl ?_|refine BU rfl ?_)|(refine BL ?_;first|refine BQ ?_)|(refine BR ?_;try simp only [setS]))|refine AA ?_|refine AC ?_|refine AD ?_|refine AE ?_|refine AF rfl rfl ?_|refine AG rfl rfl ?_|refine AH ?_|refine AI ?_|refine AJ ?_|refine AK ?_|refine AL ?_|refine AM ?_|refine AN ?_|refine AO ?_|refine AP ?_|refine AQ rfl ?_|refine AR ?_|refine AS ?_|refine AT rfl ?_|refine AU rfl ?_
        repeat first|(refine BG ?_;first|(refine BH ?_;first|(refine BI ?_;refine BM ?_)|(refine BJ ?_;first|refine BN ?_|refine BO ?_)|refine BV (v_notb rfl) ?_|refine BV (v_bx bA rfl rfl) ?_|refine BV (v_bx bB rfl rfl) ?_|refine BV (v_muli rfl rfl m1) ?_|refine BV (v_muli rfl rfl m2) ?_|refine BP ?_)|(refine BK ?_;first|refine BS rfl rfl ?_|refine BT rfl rfl ?_|refine BU rfl ?_)|(refine BL ?_;first|refine BQ ?_)|(refine BR ?_;try simp only [setS]))|(refine BX ?_;first|refine BY rfl ?_|(refine BZ ?_;refine CA ?_)|refine CB (v_notb rfl) ?_|refine CB (v_bx bA rfl rfl) ?_|refine CB (v_bx bB rfl rfl) ?_|refine CB (v_muli rfl rfl m1) ?_|refine CB (v_muli rfl rfl m2) ?_|refine CC ?_|(refine CD ?_;try simp only [setS]))|refine AA ?_|refine AC ?_|refine AD ?_|refine AE ?_|refine AF rfl rfl ?_|refine AG rfl rfl ?_|refine AH ?_|refine AI ?_|refine AJ ?_|refine AK ?_|refine AL ?_|refine AM ?_|refine AN ?_|refine AO ?_|refine AP ?_|refine AQ rfl ?_|refine AR ?_|refine AS ?_|refine AT rfl ?_|refine AU rfl ?_
        exact ⟨K5, rfl⟩
      · rw [if_neg h1]
        by_cases h2 : a = b
        · rw [if_pos h2]
          repeat first|(refine BG ?_;first|(refine BH ?_;first|(refine BI ?_;refine BM ?_)|(refine BJ ?_;first|refine BN ?_|refine BO ?_)|refine BV (v_notb rfl) ?_|refine BV (v_bx bA rfl rfl) ?_|refine BV (v_bx bB rfl rfl) ?_|refine BV (v_muli rfl rfl m1) ?_|refine BV (v_muli rfl rfl m2) ?_|refine BV (v_bxn bA rfl (Nat.le_refl _)) ?_|refine BV (v_bxn bB rfl (Nat.le_refl _)) ?_|refine BV (v_seq2t (a := a) (b := b) rfl rfl h2) ?_|refine BP ?_)|(refine BK ?_;first|refine BS rfl rfl ?_|refine BT rfl rfl ?_|refine BU rfl ?_)|(refine BL ?_;first|refine BQ ?_)|(refine BR ?_;try simp only [setS]))|(refine BX ?_;first|refine BY rfl ?_|(refine BZ ?_;refine CA ?_)|refine CB (v_notb rfl) ?_|refine CB (v_bx bA rfl rfl) ?_|refine CB (v_bx bB rfl rfl) ?_|refine CB (v_muli rfl rfl m1) ?_|refine CB (v_muli rfl rfl m2) ?_|refine CB (v_bxn bA rfl (Nat.le_refl _)) ?_|refine CB (v_bxn bB rfl (Nat.le_refl _)) ?_|refine CB (v_seq2t (a := a) (b := b) rfl rfl h2) ?_|refine CC ?_|(refine CD ?_;try simp only [setS]))|refine AA ?_|refine AC ?_|refine AD ?_|refine AE ?_|refine AF rfl rfl ?_|refine AG rfl rfl ?_|refine AH ?_|refine AI ?_|refine AJ ?_|refine AK ?_|refine AL ?_|refine AM ?_|refine AN ?_|refine AO ?_|refine AP ?_|refine AQ rfl ?_|refine AR ?_|refine AS ?_|refine AT rfl ?_|refine AU rfl ?_
          exact ⟨K5, rfl⟩
        · rw [if_neg h2]
          repeat first|(refine BG ?_;first|(refine BH ?_;first|(refine BI ?_;refine BM ?_)|(refine BJ ?_;first|refine BN ?_|refine BO ?_)|refine BV (v_notb rfl) ?_|refine BV (v_bx bA rfl rfl) ?_|refine BV (v_bx bB rfl rfl) ?_|refine BV (v_muli rfl rfl m1) ?_|refine BV (v_muli rfl rfl m2) ?_|refine BV (v_bxn bA rfl (Nat.le_refl _)) ?_|refine BV (v_bxn bB rfl (Nat.le_refl _)) ?_|refine BV (v_seq2f (a := a) (b := b) rfl rfl h2) ?_|refine BP ?_)|(refine BK ?_;first|refine BS rfl rfl ?_|refine BT rfl rfl ?_|refine BU rfl ?_)|(refine BL ?_;first|refine BQ ?_)|(refine BR ?_;try simp only [setS]))|(refine BX ?_;first|refine BY rfl ?_|(refine BZ ?_;refine CA ?_)|refine CB (v_notb rfl) ?_|refine CB (v_bx bA rfl rfl) ?_|refine CB (v_bx bB rfl rfl) ?_|refine CB (v_muli rfl rfl m1) ?_|refine CB (v_muli rfl rfl m2) ?_|refine CB (v_bxn bA rfl (Nat.le_refl _)) ?_|refine CB (v_bxn bB rfl (Nat.le_refl _)) ?_|refine CB (v_seq2f (a := a) (b := b) rfl rfl h2) ?_|refine CC ?_|(refine CD ?_;try simp only [setS]))|refine AA ?_|refine AC ?_|refine AD ?_|refine AE ?_|refine AF rfl rfl ?_|refine AG rfl rfl ?_|refine AH ?_|refine AI ?_|refine AJ ?_|refine AK ?_|refine AL ?_|refine AM ?_|refine AN ?_|refine AO ?_|refine AP ?_|refine AQ rfl ?_|refine AR ?_|refine AS ?_|refine AT rfl ?_|refine AU rfl ?_
          exact ⟨K5, rfl⟩
    · rw [if_neg (by rw [hra]; simp), if_neg (by rw [hra]; simp), if_pos hrb, hra, hrb]
      repeat first|(refine BG ?_;first|(refine BH ?_;first|(refine BI ?_;refine BM ?_)|(refine BJ ?_;first|refine BN ?_|refine BO ?_)|refine BV (v_notb rfl) ?_|refine BP ?_)|(refine BK ?_;first|refine BS rfl rfl ?_|refine BT rfl rfl ?_|refine BU rfl ?_)|(refine BL ?_;first|refine BQ ?_)|(refine BR ?_;try simp only [setS]))|(refine BX ?_;first|refine BY rfl ?_|(refine BZ ?_;refine CA ?_)|refine CB (v_notb rfl) ?_|refine CC ?_|(refine CD ?_;try simp only [setS]))|refine AA ?_|refine AC ?_|refine AD ?_|refine AE ?_|refine AF rfl rfl ?_|refine AG rfl rfl ?_|refine AH ?_|refine AI ?_|refine AJ ?_|refine AK ?_|refine AL ?_|refine AM ?_|refine AN ?_|refine AO ?_|refine AP ?_|refine AQ rfl ?_|refine AR ?_|refine AS ?_|refine AT rfl ?_|refine AU rfl ?_
      exact ⟨K5, rfl⟩
  · rcases Bool.eq_false_or_eq_true (rightF b) with hrb | hrb
    · rw [if_neg (by rw [hrb]; simp), if_pos hra, hra, hrb]
      repeat first|(refine BG ?_;first|(refine BH ?_;first|(refine BI ?_;refine BM ?_)|(refine BJ ?_;first|refine BN ?_|refine BO ?_)|refine BV (v_notb rfl) ?_|refine BP ?_)|(refine BK ?_;first|refine BS rfl rfl ?_|refine BT rfl rfl ?_|refine BU rfl ?_)|(refine BL ?_;first|refine BQ ?_)|(refine BR ?_;try simp only [setS]))|(refine BX ?_;first|refine BY rfl ?_|(refine BZ ?_;refine CA ?_)|refine CB (v_notb rfl) ?_|refine CC ?_|(refine CD ?_;try simp only [setS]))|refine AA ?_|refine AC ?_|refine AD ?_|refine AE ?_|refine AF rfl rfl ?_|refine AG rfl rfl ?_|refine AH ?_|refine AI ?_|refine AJ ?_|refine AK ?_|refine AL ?_|refine AM ?_|refine AN ?_|refine AO ?_|refine AP ?_|refine AQ rfl ?_|refine AR ?_|refine AS ?_|refine AT rfl ?_|refine AU rfl ?_
      exact ⟨K5, rfl⟩
    · rw [if_pos ⟨hra, hrb⟩, hra, hrb]
      repeat first|(refine BG ?_;first|(refine BH ?_;first|(refine BI ?_;refine BM ?_)|(refine BJ ?_;first|refine BN ?_|refine BO ?_)|refine BV (v_notb rfl) ?_|refine BP ?_)|(refine BK ?_;first|refine BS rfl rfl ?_|refine BT rfl rfl ?_|refine BU rfl ?_)|(refine BL ?_;first|refine BQ ?_)|(refine BR ?_;try simp only [setS]))|(refine BX ?_;first|refine BY rfl ?_|(refine BZ ?_;refine CA ?_)|refine CB (v_notb rfl) ?_|refine CC ?_|(refine CD ?_;try simp only [setS]))|refine AA ?_|refine AC ?_|refine AD ?_|refine AE ?_|refine AF rfl rfl ?_|refine AG rfl rfl ?_|refine AH ?_|refine AI ?_|refine AJ ?_|refine AK ?_|refine AL ?_|refine AM ?_|refine AN ?_|refine AO ?_|refine AP ?_|refine AQ rfl ?_|refine AR ?_|refine AS ?_|refine AT rfl ?_|refine AU rfl ?_
      exact ⟨K5, rfl⟩
theorem ofq_ok (hE : ∀ f e, E f = some e → e.plain) (T : QaS E) {h : Hp X} {n : Int} (hn : I64 n) : WF (lim E) 43 [.int .i64 n] h fun x h' => Keep NoB h h' ∧ x = qe (newF n 1) := by
  refine wf_bc hE T.of rfl ?_
  simp only [b_ratOf, List.map, getS]
  have bx : Bx (h.push (.rw [.int .i64 0, .int .i64 0])) h.n [.int .i64 0, .int .i64 0] := bx_push
  have kp : Keep NoB h (h.push (.rw [.int .i64 0, .int .i64 0])) := Keep.push _ _ _
  repeat first|(refine BG ?_;first|(refine BH ?_;first|(refine BI ?_;refine BM ?_)|(refine BJ ?_;first|refine BN ?_|refine BO ?_)|refine BP ?_)|(refine BK ?_;first|refine BS rfl rfl ?_|refine BT rfl rfl ?_|refine BU rfl ?_)|(refine BL ?_;first|refine BQ ?_)|(refine BR ?_;try simp only [setS]))|refine AA ?_|refine AC ?_|refine AD ?_|refine AE ?_|refine AF rfl rfl ?_|refine AG rfl rfl ?_|refine AH ?_|refine AI ?_|refine AJ ?_|refine AK ?_|refine AL ?_|refine AM ?_|refine AN ?_|refine AO ?_|refine AP ?_|refine AQ rfl ?_|refine AR ?_|refine AS ?_|refine AT rfl ?_|refine AU rfl ?_
  refine wr_call_e rfl ((newq_ok hE T.toQaT hn (d := 1) ⟨by omega, by omega⟩).mono fun x h2 ⟨k2, e2⟩ => ?_)
  subst e2
  have bx2 := bx.up k2
  generalize newF n 1 = r at *
  obtain ⟨⟨n1, n2⟩, er⟩ := r
  repeat first|(refine BG ?_;first|(refine BH ?_;first|(refine BI ?_;refine BM ?_)|(refine BJ ?_;first|refine BN ?_|refine BO ?_)|refine BP ?_)|(refine BK ?_;first|refine BS rfl rfl ?_|refine BT rfl rfl ?_|refine BU rfl ?_)|(refine BL ?_;first|refine BW (ef_bxn bx2 rfl rfl rfl rfl (Nat.le_refl _)) ?_|refine BQ ?_)|(refine BR ?_;try simp only [setS]))|refine AA ?_|refine AC ?_|refine AD ?_|refine AE ?_|refine AF rfl rfl ?_|refine AG rfl rfl ?_|refine AH ?_|refine AI ?_|refine AJ ?_|refine AK ?_|refine AL ?_|refine AM ?_|refine AN ?_|refine AO ?_|refine AP ?_|refine AQ rfl ?_|refine AR ?_|refine AS ?_|refine AT rfl ?_|refine AU rfl ?_
  exact fin_q (q := (n1, n2)) (er := er) bx2.put rfl rfl ⟨(kp.and k2).own (Keep.put _ _ _ (S := OneB h.n) rfl) (fun k q => Nat.le_of_eq q.symm), rfl⟩
end
end Am
end Go.Proofs.Ytkgplkddpigagaa
