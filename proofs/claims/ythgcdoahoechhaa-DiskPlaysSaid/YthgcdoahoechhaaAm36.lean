/- The plain machine: what a law is given: opened one by one. -/
import Derived.Test.YthgcdoahoechhaaMH
import Derived.KernelRfl
import Derived.SizedLaws
set_option linter.unusedVariables false
set_option linter.unusedSimpArgs false
namespace Go.Proofs.Ythgcdoahoechhaa
namespace Am
open Go.RowKit Go.ChangeShapes Go.WideShapes Go.ChangeAt Go.Deep
set_option maxRecDepth 10000
def I64 (n : Int) : Prop := -9223372036854775808 ≤ n ∧ n ≤ 9223372036854775807
theorem vrs_nil {m : Mu} : VRs m [] [] := by simp only [VRs]
theorem vrs_cons {m : Mu} {a : AV} {v : Value} {xs : List AV} {l : List Value} (h : VR m a v) (hl : VRs m xs l) : VRs m (a :: xs) (v :: l) := by
  simp only [VRs]
  exact ⟨v, l, rfl, h, hl⟩
theorem vr_int {m : Mu} {k : IntKind} {n : Int} : VR m (.int k n) (.int k n) := by simp only [VR]
theorem vr_str {m : Mu} {s : ByteArray} : VR m (.str s.data.toList) (.string s) := by simp [VR]
theorem rs_one {X : Type} {h : Hp X} {z n : Nat} {v : AV} {cells : List AV} (a : RS h z v n cells) : v.one = true := by
  cases v <;> first | exact a.elim | rfl
def IntsQ {X : Type} (h : Hp X) (x : AV) (l : List Int) : Prop := RS h 1 x l.length (l.map iv) ∧ (∀ y ∈ l, I64 y) ∧ l.length ≤ maxLen
theorem IntsQ.up {X : Type} {h h' : Hp X} {x : AV} {l : List Int} (a : IntsQ h x l) (k : Keep NoB h h') : IntsQ h' x l := ⟨a.1.up k, a.2⟩
structure IntssAt {X : Type} (h : Hp X) (x : AV) (ls : List (List Int)) : Prop where
  out : ∃ cells, RS h 1 x ls.length cells ∧ ∀ (i : Nat) y l, cells[i]? = some y → ls[i]? = some l → IntsQ h y l
  len : ls.length ≤ maxLen
theorem IntssAt.up {X : Type} {h h' : Hp X} {x : AV} {ls : List (List Int)} (a : IntssAt h x ls) (k : Keep NoB h h') : IntssAt h' x ls := by
  obtain ⟨cells, h1, h2⟩ := a.out
  exact ⟨⟨cells, h1.up k, fun i y l q1 q2 => (h2 i y l q1 q2).up k⟩, a.len⟩
end Am
end Go.Proofs.Ythgcdoahoechhaa
