/- AggNumbers: the run in pieces, 9. -/
import Derived.Test.YtmdbgpnepekcoaaC3s
namespace Go.Proofs.Ytmdbgpnepekcoaa
namespace Am
namespace C3
open Go.RowKit
set_option maxRecDepth 1000000
theorem k140 : chkR eqE (k_bc crrrlrborlblrbo D 100000 s139.t s139.h) .norm s140 = true := by decide +kernel
theorem k141 : chkR eqE (k_bc crrrlrborlblrbo D 100000 s140.t s140.h) .norm s141 = true := by decide +kernel
theorem k142 : chkR eqE (k_bc crrrlrborlblrbo D 100000 s141.t s141.h) .norm s142 = true := by decide +kernel
theorem k143 : chkR eqE (k_bc crrrlrborlblrbo D 100000 s142.t s142.h) .norm s143 = true := by decide +kernel
theorem k144 : chkR eqE (k_bc crrrlrborlblrbo D 100000 s143.t s143.h) .norm s144 = true := by decide +kernel
theorem k145 : chkR eqE (k_bc crrrlrborlblrbo D 100000 s144.t s144.h) .norm s145 = true := by decide +kernel
theorem k146 : chkR eqE (k_bc crrrlrborlblrbo D 100000 s145.t s145.h) (.brk 2) s146 = true := by decide +kernel
theorem k150 : chkR eqE (k_bc crrrlrborlbr D 100000 s146.t s146.h) .norm s150 = true := by decide +kernel
theorem k153 : chkR eqE (k_bc crrrlrborr D 100000 s150.t s150.h) .norm s153 = true := by decide +kernel
end C3
end Am
end Go.Proofs.Ytmdbgpnepekcoaa
