/- WalCrashes: the law, walked. -/
import Derived.Test.YthgcdoahoechhaaMM
set_option linter.unusedVariables false
set_option linter.unusedSimpArgs false
namespace Go.Proofs.Ythgcdoahoechhaa
namespace Am
open Go.RowKit
set_option maxRecDepth 100000
def w0 : List UInt8 := [119, 48]
theorem laid_app (a b : List (List EM)) : laidB (a ++ b) = laidB a ++ laidB b := by unfold laidB; exact List.flatMap_append
theorem laid_le {ls : List (List EM)} (i : Nat) : (laidB (ls.take i)).length ≤ (laidB ls).length := by
  have e : laidB ls = laidB (ls.take i) ++ laidB (ls.drop i) := by rw [← laid_app, List.take_append_drop]
  rw [e, List.length_append]
  omega
end Am
end Go.Proofs.Ythgcdoahoechhaa
