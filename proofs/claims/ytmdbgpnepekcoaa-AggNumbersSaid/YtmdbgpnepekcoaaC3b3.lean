/- AggNumbers: the run in pieces, 3. -/
import Derived.Test.YtmdbgpnepekcoaaC3s
namespace Go.Proofs.Ytmdbgpnepekcoaa
namespace Am
namespace C3
open Go.RowKit
set_option maxRecDepth 1000000
theorem k42 : chkR eqE (k_bc crrrlrborlblrbo D 100000 s41.t s41.h) .norm s42 = true := by decide +kernel
theorem k43 : chkR eqE (k_bc crrrlrborlblrbo D 100000 s42.t s42.h) .norm s43 = true := by decide +kernel
theorem k44 : chkR eqE (k_bc crrrlrborlblrbo D 100000 s43.t s43.h) .norm s44 = true := by decide +kernel
theorem k45 : chkR eqE (k_bc crrrlrborlblrbol D 100000 s44.t s44.h) .norm s45 = true := by decide +kernel
theorem k46 : chkR eqE (k_bc crrrlrborlblrborlbl D 100000 s45.t s45.h) .norm s46 = true := by decide +kernel
theorem k47 : chkR eqE (k_bc crrrlrborlblrborlbr D 100000 s46.t s46.h) .norm s47 = true := by decide +kernel
theorem k50 : chkR eqE (k_bc crrrlrborlblrborr D 100000 s47.t s47.h) .norm s50 = true := by decide +kernel
theorem k53 : chkR eqE (k_bc crrrlrborlblrbo D 100000 s50.t s50.h) (.brk 2) s53 = true := by decide +kernel
theorem k57 : chkR eqE (k_bc crrrlrborlbr D 100000 s53.t s53.h) .norm s57 = true := by decide +kernel
end C3
end Am
end Go.Proofs.Ytmdbgpnepekcoaa
