/- AggNumbers: the run in pieces, 11. -/
import Derived.Test.YtmdbgpnepekcoaaC3s
namespace Go.Proofs.Ytmdbgpnepekcoaa
namespace Am
namespace C3
open Go.RowKit
set_option maxRecDepth 1000000
theorem k168 : chkR eqE (k_bc crrrlrborlbr D 100000 s164.t s164.h) .norm s168 = true := by decide +kernel
theorem k171 : chkR eqE (k_bc crrrlrborr D 100000 s168.t s168.h) .norm s171 = true := by decide +kernel
theorem k174 : chkR eqE (k_bc crrrlrbo D 100000 s171.t s171.h) .norm s174 = true := by decide +kernel
theorem k175 : chkR eqE (k_bc crrrlrbo D 100000 s174.t s174.h) (.brk 0) s175 = true := by decide +kernel
theorem k179 : chkR eqE (k_bc crrrr D 100000 s175.t s175.h) .ret s179 = true := by decide +kernel
end C3
end Am
end Go.Proofs.Ytmdbgpnepekcoaa
