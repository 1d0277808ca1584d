/- AggNumbers: the run in pieces, 5. -/
import Derived.Test.YtmdbgpnepekcoaaC3s
namespace Go.Proofs.Ytmdbgpnepekcoaa
namespace Am
namespace C3
open Go.RowKit
set_option maxRecDepth 1000000
theorem k71 : chkR eqE (k_bc crrrlrborlblrborlbl D 100000 s70.t s70.h) .norm s71 = true := by decide +kernel
theorem k72 : chkR eqE (k_bc crrrlrborlblrborlbr D 100000 s71.t s71.h) .norm s72 = true := by decide +kernel
theorem k75 : chkR eqE (k_bc crrrlrborlblrborr D 100000 s72.t s72.h) .norm s75 = true := by decide +kernel
theorem k78 : chkR eqE (k_bc crrrlrborlblrbo D 100000 s75.t s75.h) (.brk 2) s78 = true := by decide +kernel
theorem k82 : chkR eqE (k_bc crrrlrborlbr D 100000 s78.t s78.h) .norm s82 = true := by decide +kernel
theorem k85 : chkR eqE (k_bc crrrlrborr D 100000 s82.t s82.h) .norm s85 = true := by decide +kernel
theorem k88 : chkR eqE (k_bc crrrlrbol D 100000 s85.t s85.h) .norm s88 = true := by decide +kernel
theorem k89 : chkR eqE (k_bc crrrlrborlbll D 100000 s88.t s88.h) .norm s89 = true := by decide +kernel
theorem k90 : chkR eqE (k_bc crrrlrborlblrbo D 100000 s89.t s89.h) .norm s90 = true := by decide +kernel
end C3
end Am
end Go.Proofs.Ytmdbgpnepekcoaa
