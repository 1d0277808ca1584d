/- The plain machine: a list of truths that a law is given, opened. -/
import Derived.Test.YthgcdoahoechhaaAm37
set_option linter.unusedVariables false
set_option linter.unusedSimpArgs false
namespace Go.Proofs.Ythgcdoahoechhaa
namespace Am
open Go.RowKit Go.ChangeShapes Go.WideShapes Go.ChangeAt Go.Deep
set_option maxRecDepth 10000
structure BoolsAt {X : Type} (h : Hp X) (x : AV) (l : List Bool) : Prop where
  rs : RS h 1 x l.length (l.map AV.bool)
  len : l.length ≤ maxLen
theorem BoolsAt.up {X : Type} {h h' : Hp X} {x : AV} {l : List Bool} (a : BoolsAt h x l) (k : Keep NoB h h') : BoolsAt h' x l := ⟨a.rs.up k, a.len⟩
end Am
end Go.Proofs.Ythgcdoahoechhaa
