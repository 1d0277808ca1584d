/- The plain machine: batches that a law is given, opened. -/
import Derived.Test.YthgcdoahoechhaaAm36
import Derived.Test.YthgcdoahoechhaaMH
import Derived.Test.YthgcdoahoechhaaMK
set_option linter.unusedVariables false
set_option linter.unusedSimpArgs false
namespace Go.Proofs.Ythgcdoahoechhaa
namespace Am
open Go.RowKit Go.ChangeShapes Go.WideShapes Go.ChangeAt Go.Deep
set_option maxRecDepth 10000
abbrev Row3B := Option Addr × Bs × Nat
def rb (r : Row3B) : Value := .slice r.1 r.2.1.length r.2.2
structure EntssAt {X : Type} (h : Hp X) (x : AV) (ls : List (List EM)) : Prop where
  bats : Bats h x ls (fun _ => True)
  len : ls.length ≤ maxLen
  len2 : ∀ l ∈ ls, l.length ≤ maxLen
theorem EntssAt.up {X : Type} {h h' : Hp X} {x : AV} {ls : List (List EM)} (a : EntssAt h x ls) (k : Keep NoB h h') : EntssAt h' x ls := ⟨a.bats.up k, a.len, a.len2⟩
end Am
end Go.Proofs.Ythgcdoahoechhaa
