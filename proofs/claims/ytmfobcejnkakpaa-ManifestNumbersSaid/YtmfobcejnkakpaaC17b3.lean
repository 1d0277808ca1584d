/- ManifestNumbers: the run in pieces, 3. -/
import Derived.Test.YtmfobcejnkakpaaC17s
namespace Go.Proofs.Ytmfobcejnkakpaa
namespace Am
namespace C17
open Go.RowKit
set_option maxRecDepth 1000000
theorem k36 : chkR eqMD (k_bc crrrrrrrlrbo D 100000 s35.t s35.h) .norm s36 = true := by decide +kernel
theorem k37 : chkR eqMD (k_bc crrrrrrrlrbo D 100000 s36.t s36.h) .norm s37 = true := by decide +kernel
theorem k38 : chkR eqMD (k_bc crrrrrrrlrbo D 100000 s37.t s37.h) .norm s38 = true := by decide +kernel
theorem k39 : chkR eqMD (k_bc crrrrrrrlrbo D 100000 s38.t s38.h) .norm s39 = true := by decide +kernel
theorem k40 : chkR eqMD (k_bc crrrrrrrlrbo D 100000 s39.t s39.h) .norm s40 = true := by decide +kernel
theorem k41 : chkR eqMD (k_bc crrrrrrrlrbo D 100000 s40.t s40.h) (.brk 6) s41 = true := by decide +kernel
theorem k45 : chkR eqMD (k_bc crrrrrrrr D 100000 s41.t s41.h) .ret s45 = true := by decide +kernel
end C17
end Am
end Go.Proofs.Ytmfobcejnkakpaa
