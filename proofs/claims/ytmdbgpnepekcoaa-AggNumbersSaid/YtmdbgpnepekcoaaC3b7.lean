/- AggNumbers: the run in pieces, 7. -/
import Derived.Test.YtmdbgpnepekcoaaC3s
namespace Go.Proofs.Ytmdbgpnepekcoaa
namespace Am
namespace C3
open Go.RowKit
set_option maxRecDepth 1000000
theorem k104 : chkR eqE (k_bc crrrlrborlblrborlbr D 100000 s103.t s103.h) .norm s104 = true := by decide +kernel
theorem k107 : chkR eqE (k_bc crrrlrborlblrborr D 100000 s104.t s104.h) .norm s107 = true := by decide +kernel
theorem k110 : chkR eqE (k_bc crrrlrborlblrbo D 100000 s107.t s107.h) (.brk 2) s110 = true := by decide +kernel
theorem k114 : chkR eqE (k_bc crrrlrborlbr D 100000 s110.t s110.h) .norm s114 = true := by decide +kernel
theorem k117 : chkR eqE (k_bc crrrlrborr D 100000 s114.t s114.h) .norm s117 = true := by decide +kernel
theorem k120 : chkR eqE (k_bc crrrlrbol D 100000 s117.t s117.h) .norm s120 = true := by decide +kernel
theorem k121 : chkR eqE (k_bc crrrlrborlbll D 100000 s120.t s120.h) .norm s121 = true := by decide +kernel
theorem k122 : chkR eqE (k_bc crrrlrborlblrbo D 100000 s121.t s121.h) .norm s122 = true := by decide +kernel
theorem k123 : chkR eqE (k_bc crrrlrborlblrbo D 100000 s122.t s122.h) .norm s123 = true := by decide +kernel
end C3
end Am
end Go.Proofs.Ytmdbgpnepekcoaa
