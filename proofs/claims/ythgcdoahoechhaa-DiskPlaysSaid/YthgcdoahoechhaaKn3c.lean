/- known: the walk. -/
import Derived.Test.YthgcdoahoechhaaKn3b0
set_option linter.unusedVariables false
set_option linter.unusedSimpArgs false
namespace Go.Proofs.Ythgcdoahoechhaa
namespace Am
namespace Kn3
open Go.RowKit
set_option maxRecDepth 1000000
theorem e0 : EvB Try.prog OD K NT c s.t s.h (.ret s0.t s0.h) := ev_leaf hD hX 100000 k0
theorem walk (W : World) : Calls Try.prog 16 #[] W fun e W' => e = .returned (.bool true) ∧ Below W.heap.size W W' := closed_law topf e0 (by rfl) W
end Kn3
end Am
end Go.Proofs.Ythgcdoahoechhaa
