/- AggNumbers: the run in pieces, 2. -/
import Derived.Test.YtmdbgpnepekcoaaC3s
namespace Go.Proofs.Ytmdbgpnepekcoaa
namespace Am
namespace C3
open Go.RowKit
set_option maxRecDepth 1000000
theorem k22 : chkR eqE (k_bc crrrlrborlblrborlbr D 100000 s21.t s21.h) .norm s22 = true := by decide +kernel
theorem k25 : chkR eqE (k_bc crrrlrborlblrborr D 100000 s22.t s22.h) .norm s25 = true := by decide +kernel
theorem k28 : chkR eqE (k_bc crrrlrborlblrbo D 100000 s25.t s25.h) (.brk 2) s28 = true := by decide +kernel
theorem k32 : chkR eqE (k_bc crrrlrborlbr D 100000 s28.t s28.h) .norm s32 = true := by decide +kernel
theorem k35 : chkR eqE (k_bc crrrlrborr D 100000 s32.t s32.h) .norm s35 = true := by decide +kernel
theorem k38 : chkR eqE (k_bc crrrlrbol D 100000 s35.t s35.h) .norm s38 = true := by decide +kernel
theorem k39 : chkR eqE (k_bc crrrlrborlbll D 100000 s38.t s38.h) .norm s39 = true := by decide +kernel
theorem k40 : chkR eqE (k_bc crrrlrborlblrbo D 100000 s39.t s39.h) .norm s40 = true := by decide +kernel
theorem k41 : chkR eqE (k_bc crrrlrborlblrbo D 100000 s40.t s40.h) .norm s41 = true := by decide +kernel
end C3
end Am
end Go.Proofs.Ytmdbgpnepekcoaa
