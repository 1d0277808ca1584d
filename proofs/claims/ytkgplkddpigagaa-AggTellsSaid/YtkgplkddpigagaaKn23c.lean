/- known: the walk. -/
import Derived.Test.YtkgplkddpigagaaKn23b0
set_option linter.unusedVariables false
set_option linter.unusedSimpArgs false
namespace Go.Proofs.Ytkgplkddpigagaa
namespace Am
namespace Kn23
open Go.RowKit
set_option maxRecDepth 1000000
theorem e0 : EvB Try.prog O0 K NT c s.t s.h (.ret s0.t s0.h) := ev_leaf hD hX 100000 k0
theorem walk (W : World) : Calls Try.prog 10 #[] W fun e W' => e = .returned (.bool true) ∧ Below W.heap.size W W' := closed_law topf e0 (by rfl) W
end Kn23
end Am
end Go.Proofs.Ytkgplkddpigagaa
