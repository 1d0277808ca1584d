/- AggNumbers: the run in pieces, 0. -/
import Derived.Test.YtmdbgpnepekcoaaC3s
namespace Go.Proofs.Ytmdbgpnepekcoaa
namespace Am
namespace C3
open Go.RowKit
set_option maxRecDepth 1000000
theorem k0 : chkR eqE (k_bc cl D 100000 s.t s.h) .norm s0 = true := by decide +kernel
theorem k1 : chkR eqE (k_bc crl D 100000 s0.t s0.h) .norm s1 = true := by decide +kernel
theorem k2 : chkR eqE (k_bc crrl D 100000 s1.t s1.h) .norm s2 = true := by decide +kernel
theorem k3 : chkR eqE (k_bc crrrll D 100000 s2.t s2.h) .norm s3 = true := by decide +kernel
theorem k4 : chkR eqE (k_bc crrrlrbo D 100000 s3.t s3.h) .norm s4 = true := by decide +kernel
theorem k5 : chkR eqE (k_bc crrrlrbo D 100000 s4.t s4.h) .norm s5 = true := by decide +kernel
theorem k6 : chkR eqE (k_bc crrrlrbol D 100000 s5.t s5.h) .norm s6 = true := by decide +kernel
theorem k7 : chkR eqE (k_bc crrrlrborlbll D 100000 s6.t s6.h) .norm s7 = true := by decide +kernel
theorem k8 : chkR eqE (k_bc crrrlrborlblrbo D 100000 s7.t s7.h) .norm s8 = true := by decide +kernel
end C3
end Am
end Go.Proofs.Ytmdbgpnepekcoaa
