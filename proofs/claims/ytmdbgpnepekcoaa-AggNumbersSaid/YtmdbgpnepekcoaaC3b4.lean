/- AggNumbers: the run in pieces, 4. -/
import Derived.Test.YtmdbgpnepekcoaaC3s
namespace Go.Proofs.Ytmdbgpnepekcoaa
namespace Am
namespace C3
open Go.RowKit
set_option maxRecDepth 1000000
theorem k60 : chkR eqE (k_bc crrrlrborr D 100000 s57.t s57.h) .norm s60 = true := by decide +kernel
theorem k63 : chkR eqE (k_bc crrrlrbol D 100000 s60.t s60.h) .norm s63 = true := by decide +kernel
theorem k64 : chkR eqE (k_bc crrrlrborlbll D 100000 s63.t s63.h) .norm s64 = true := by decide +kernel
theorem k65 : chkR eqE (k_bc crrrlrborlblrbo D 100000 s64.t s64.h) .norm s65 = true := by decide +kernel
theorem k66 : chkR eqE (k_bc crrrlrborlblrbo D 100000 s65.t s65.h) .norm s66 = true := by decide +kernel
theorem k67 : chkR eqE (k_bc crrrlrborlblrbo D 100000 s66.t s66.h) .norm s67 = true := by decide +kernel
theorem k68 : chkR eqE (k_bc crrrlrborlblrbo D 100000 s67.t s67.h) .norm s68 = true := by decide +kernel
theorem k69 : chkR eqE (k_bc crrrlrborlblrbo D 100000 s68.t s68.h) .norm s69 = true := by decide +kernel
theorem k70 : chkR eqE (k_bc crrrlrborlblrbol D 100000 s69.t s69.h) .norm s70 = true := by decide +kernel
end C3
end Am
end Go.Proofs.Ytmdbgpnepekcoaa
