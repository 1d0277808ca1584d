/- known: the run in pieces, 0. -/
import Derived.Test.YtkgplkddpigagaaKn23s
set_option linter.unusedVariables false
set_option linter.unusedSimpArgs false
namespace Go.Proofs.Ytkgplkddpigagaa
namespace Am
namespace Kn23
open Go.RowKit
set_option maxRecDepth 1000000
theorem k0 : chkR eqE (k_bc c D 100000 s.t s.h) .ret s0 = true := by decide +kernel
end Kn23
end Am
end Go.Proofs.Ytkgplkddpigagaa
