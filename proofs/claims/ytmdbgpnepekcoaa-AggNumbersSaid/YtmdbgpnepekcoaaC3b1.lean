/- AggNumbers: the run in pieces, 1. -/
import Derived.Test.YtmdbgpnepekcoaaC3s
namespace Go.Proofs.Ytmdbgpnepekcoaa
namespace Am
namespace C3
open Go.RowKit
set_option maxRecDepth 1000000
theorem k9 : chkR eqE (k_bc crrrlrborlblrbo D 100000 s8.t s8.h) .norm s9 = true := by decide +kernel
theorem k10 : chkR eqE (k_bc crrrlrborlblrbo D 100000 s9.t s9.h) .norm s10 = true := by decide +kernel
theorem k11 : chkR eqE (k_bc crrrlrborlblrbo D 100000 s10.t s10.h) .norm s11 = true := by decide +kernel
theorem k12 : chkR eqE (k_bc crrrlrborlblrbol D 100000 s11.t s11.h) .norm s12 = true := by decide +kernel
theorem k13 : chkR eqE (k_bc crrrlrborlblrborlbl D 100000 s12.t s12.h) .norm s13 = true := by decide +kernel
theorem k14 : chkR eqE (k_bc crrrlrborlblrborlbr D 100000 s13.t s13.h) .norm s14 = true := by decide +kernel
theorem k17 : chkR eqE (k_bc crrrlrborlblrborr D 100000 s14.t s14.h) .norm s17 = true := by decide +kernel
theorem k20 : chkR eqE (k_bc crrrlrborlblrbol D 100000 s17.t s17.h) .norm s20 = true := by decide +kernel
theorem k21 : chkR eqE (k_bc crrrlrborlblrborlbl D 100000 s20.t s20.h) .norm s21 = true := by decide +kernel
end C3
end Am
end Go.Proofs.Ytmdbgpnepekcoaa
