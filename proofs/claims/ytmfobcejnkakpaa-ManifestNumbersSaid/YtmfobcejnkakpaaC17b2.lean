/- ManifestNumbers: the run in pieces, 2. -/
import Derived.Test.YtmfobcejnkakpaaC17s
namespace Go.Proofs.Ytmfobcejnkakpaa
namespace Am
namespace C17
open Go.RowKit
set_option maxRecDepth 1000000
theorem k18 : chkR eqMD (k_bc crrrlrborrlbrr D 100000 s17.t s17.h) .norm s18 = true := by decide +kernel
theorem k22 : chkR eqMD (k_bc crrrlrborrr D 100000 s18.t s18.h) .norm s22 = true := by decide +kernel
theorem k26 : chkR eqMD (k_bc crrrlrbo D 100000 s22.t s22.h) (.brk 2) s26 = true := by decide +kernel
theorem k30 : chkR eqMD (k_bc crrrrl D 100000 s26.t s26.h) .norm s30 = true := by decide +kernel
theorem k31 : chkR eqMD (k_bc crrrrrl D 100000 s30.t s30.h) .norm s31 = true := by decide +kernel
theorem k32 : chkR eqMD (k_bc crrrrrrl D 100000 s31.t s31.h) .norm s32 = true := by decide +kernel
theorem k33 : chkR eqMD (k_bc crrrrrrrll D 100000 s32.t s32.h) .norm s33 = true := by decide +kernel
theorem k34 : chkR eqMD (k_bc crrrrrrrlrbo D 100000 s33.t s33.h) .norm s34 = true := by decide +kernel
theorem k35 : chkR eqMD (k_bc crrrrrrrlrbo D 100000 s34.t s34.h) .norm s35 = true := by decide +kernel
end C17
end Am
end Go.Proofs.Ytmfobcejnkakpaa
