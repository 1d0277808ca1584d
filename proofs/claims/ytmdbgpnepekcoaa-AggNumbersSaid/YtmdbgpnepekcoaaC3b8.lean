/- AggNumbers: the run in pieces, 8. -/
import Derived.Test.YtmdbgpnepekcoaaC3s
namespace Go.Proofs.Ytmdbgpnepekcoaa
namespace Am
namespace C3
open Go.RowKit
set_option maxRecDepth 1000000
theorem k124 : chkR eqE (k_bc crrrlrborlblrbo D 100000 s123.t s123.h) .norm s124 = true := by decide +kernel
theorem k125 : chkR eqE (k_bc crrrlrborlblrbo D 100000 s124.t s124.h) .norm s125 = true := by decide +kernel
theorem k126 : chkR eqE (k_bc crrrlrborlblrbo D 100000 s125.t s125.h) .norm s126 = true := by decide +kernel
theorem k127 : chkR eqE (k_bc crrrlrborlblrbo D 100000 s126.t s126.h) .norm s127 = true := by decide +kernel
theorem k128 : chkR eqE (k_bc crrrlrborlblrbo D 100000 s127.t s127.h) (.brk 2) s128 = true := by decide +kernel
theorem k132 : chkR eqE (k_bc crrrlrborlbr D 100000 s128.t s128.h) .norm s132 = true := by decide +kernel
theorem k135 : chkR eqE (k_bc crrrlrborr D 100000 s132.t s132.h) .norm s135 = true := by decide +kernel
theorem k138 : chkR eqE (k_bc crrrlrbol D 100000 s135.t s135.h) .norm s138 = true := by decide +kernel
theorem k139 : chkR eqE (k_bc crrrlrborlbll D 100000 s138.t s138.h) .norm s139 = true := by decide +kernel
end C3
end Am
end Go.Proofs.Ytmdbgpnepekcoaa
