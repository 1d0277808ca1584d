/- AggNumbers: the run in pieces, 6. -/
import Derived.Test.YtmdbgpnepekcoaaC3s
namespace Go.Proofs.Ytmdbgpnepekcoaa
namespace Am
namespace C3
open Go.RowKit
set_option maxRecDepth 1000000
theorem k91 : chkR eqE (k_bc crrrlrborlblrbo D 100000 s90.t s90.h) .norm s91 = true := by decide +kernel
theorem k92 : chkR eqE (k_bc crrrlrborlblrbo D 100000 s91.t s91.h) .norm s92 = true := by decide +kernel
theorem k93 : chkR eqE (k_bc crrrlrborlblrbo D 100000 s92.t s92.h) .norm s93 = true := by decide +kernel
theorem k94 : chkR eqE (k_bc crrrlrborlblrbol D 100000 s93.t s93.h) .norm s94 = true := by decide +kernel
theorem k95 : chkR eqE (k_bc crrrlrborlblrborlbl D 100000 s94.t s94.h) .norm s95 = true := by decide +kernel
theorem k96 : chkR eqE (k_bc crrrlrborlblrborlbr D 100000 s95.t s95.h) .norm s96 = true := by decide +kernel
theorem k99 : chkR eqE (k_bc crrrlrborlblrborr D 100000 s96.t s96.h) .norm s99 = true := by decide +kernel
theorem k102 : chkR eqE (k_bc crrrlrborlblrbol D 100000 s99.t s99.h) .norm s102 = true := by decide +kernel
theorem k103 : chkR eqE (k_bc crrrlrborlblrborlbl D 100000 s102.t s102.h) .norm s103 = true := by decide +kernel
end C3
end Am
end Go.Proofs.Ytmdbgpnepekcoaa
