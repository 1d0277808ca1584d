/- known: the run in pieces, 0. -/
import Derived.Test.YthgcdoahoechhaaKn3s
set_option linter.unusedVariables false
set_option linter.unusedSimpArgs false
namespace Go.Proofs.Ythgcdoahoechhaa
namespace Am
namespace Kn3
open Go.RowKit
set_option maxRecDepth 1000000
theorem k0 : chkR eqMD (k_bc c D 100000 s.t s.h) .ret s0 = true := by decide +kernel
end Kn3
end Am
end Go.Proofs.Ythgcdoahoechhaa
