/- ManifestNumbers: the run in pieces, 1. -/
import Derived.Test.YtmfobcejnkakpaaC17s
namespace Go.Proofs.Ytmfobcejnkakpaa
namespace Am
namespace C17
open Go.RowKit
set_option maxRecDepth 1000000
theorem k9 : chkR eqMD (k_bc crrrlrbo D 100000 s8.t s8.h) .norm s9 = true := by decide +kernel
theorem k10 : chkR eqMD (k_bc crrrlrbo D 100000 s9.t s9.h) .norm s10 = true := by decide +kernel
theorem k11 : chkR eqMD (k_bc crrrlrbo D 100000 s10.t s10.h) .norm s11 = true := by decide +kernel
theorem k12 : chkR eqMD (k_bc crrrlrbo D 100000 s11.t s11.h) .norm s12 = true := by decide +kernel
theorem k13 : chkR eqMD (k_bc crrrlrbo D 100000 s12.t s12.h) .norm s13 = true := by decide +kernel
theorem k14 : chkR eqMD (k_bc crrrlrbol D 100000 s13.t s13.h) .norm s14 = true := by decide +kernel
theorem k15 : chkR eqMD (k_bc crrrlrborl D 100000 s14.t s14.h) .norm s15 = true := by decide +kernel
theorem k16 : chkR eqMD (k_bc crrrlrborrlbl D 100000 s15.t s15.h) .norm s16 = true := by decide +kernel
theorem k17 : chkR eqMD (k_bc crrrlrborrlbrl D 100000 s16.t s16.h) .norm s17 = true := by decide +kernel
end C17
end Am
end Go.Proofs.Ytmfobcejnkakpaa
