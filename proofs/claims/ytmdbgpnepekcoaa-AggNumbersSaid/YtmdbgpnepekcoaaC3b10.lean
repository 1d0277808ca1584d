/- AggNumbers: the run in pieces, 10. -/
import Derived.Test.YtmdbgpnepekcoaaC3s
namespace Go.Proofs.Ytmdbgpnepekcoaa
namespace Am
namespace C3
open Go.RowKit
set_option maxRecDepth 1000000
theorem k156 : chkR eqE (k_bc crrrlrbol D 100000 s153.t s153.h) .norm s156 = true := by decide +kernel
theorem k157 : chkR eqE (k_bc crrrlrborlbll D 100000 s156.t s156.h) .norm s157 = true := by decide +kernel
theorem k158 : chkR eqE (k_bc crrrlrborlblrbo D 100000 s157.t s157.h) .norm s158 = true := by decide +kernel
theorem k159 : chkR eqE (k_bc crrrlrborlblrbo D 100000 s158.t s158.h) .norm s159 = true := by decide +kernel
theorem k160 : chkR eqE (k_bc crrrlrborlblrbo D 100000 s159.t s159.h) .norm s160 = true := by decide +kernel
theorem k161 : chkR eqE (k_bc crrrlrborlblrbo D 100000 s160.t s160.h) .norm s161 = true := by decide +kernel
theorem k162 : chkR eqE (k_bc crrrlrborlblrbo D 100000 s161.t s161.h) .norm s162 = true := by decide +kernel
theorem k163 : chkR eqE (k_bc crrrlrborlblrbo D 100000 s162.t s162.h) .norm s163 = true := by decide +kernel
theorem k164 : chkR eqE (k_bc crrrlrborlblrbo D 100000 s163.t s163.h) (.brk 2) s164 = true := by decide +kernel
end C3
end Am
end Go.Proofs.Ytmdbgpnepekcoaa
