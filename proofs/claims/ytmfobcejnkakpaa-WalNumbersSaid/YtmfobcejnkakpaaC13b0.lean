/- WalNumbers: the run in pieces, 0. -/
import Derived.Test.YtmfobcejnkakpaaC13s
namespace Go.Proofs.Ytmfobcejnkakpaa
namespace Am
namespace C13
open Go.RowKit
set_option maxRecDepth 1000000
theorem k0 : chkR eqMD (k_bc cl D 100000 s.t s.h) .norm s0 = true := by decide +kernel
theorem k1 : chkR eqMD (k_bc crl D 100000 s0.t s0.h) .norm s1 = true := by decide +kernel
theorem k2 : chkR eqMD (k_bc crrl D 100000 s1.t s1.h) .norm s2 = true := by decide +kernel
theorem k3 : chkR eqMD (k_bc crrrll D 100000 s2.t s2.h) .norm s3 = true := by decide +kernel
theorem k4 : chkR eqMD (k_bc crrrlrbo D 100000 s3.t s3.h) .norm s4 = true := by decide +kernel
theorem k5 : chkR eqMD (k_bc crrrlrbo D 100000 s4.t s4.h) .norm s5 = true := by decide +kernel
theorem k6 : chkR eqMD (k_bc crrrlrbo D 100000 s5.t s5.h) .norm s6 = true := by decide +kernel
theorem k7 : chkR eqMD (k_bc crrrlrbo D 100000 s6.t s6.h) .norm s7 = true := by decide +kernel
theorem k8 : chkR eqMD (k_bc crrrlrbo D 100000 s7.t s7.h) .norm s8 = true := by decide +kernel
theorem k9 : chkR eqMD (k_bc crrrlrbo D 100000 s8.t s8.h) .norm s9 = true := by decide +kernel
theorem k10 : chkR eqMD (k_bc crrrlrbo D 100000 s9.t s9.h) .norm s10 = true := by decide +kernel
theorem k11 : chkR eqMD (k_bc crrrlrbo D 100000 s10.t s10.h) .norm s11 = true := by decide +kernel
theorem k12 : chkR eqMD (k_bc crrrlrbo D 100000 s11.t s11.h) .norm s12 = true := by decide +kernel
theorem k13 : chkR eqMD (k_bc crrrlrbo D 100000 s12.t s12.h) .norm s13 = true := by decide +kernel
theorem k14 : chkR eqMD (k_bc crrrlrbo D 100000 s13.t s13.h) .norm s14 = true := by decide +kernel
theorem k15 : chkR eqMD (k_bc crrrlrbo D 100000 s14.t s14.h) .norm s15 = true := by decide +kernel
theorem k16 : chkR eqMD (k_bc crrrlrbo D 100000 s15.t s15.h) .norm s16 = true := by decide +kernel
theorem k17 : chkR eqMD (k_bc crrrlrbo D 100000 s16.t s16.h) .norm s17 = true := by decide +kernel
theorem k18 : chkR eqMD (k_bc crrrlrbo D 100000 s17.t s17.h) .norm s18 = true := by decide +kernel
theorem k19 : chkR eqMD (k_bc crrrlrbo D 100000 s18.t s18.h) .norm s19 = true := by decide +kernel
theorem k20 : chkR eqMD (k_bc crrrlrbo D 100000 s19.t s19.h) .norm s20 = true := by decide +kernel
theorem k21 : chkR eqMD (k_bc crrrlrbo D 100000 s20.t s20.h) .norm s21 = true := by decide +kernel
theorem k22 : chkR eqMD (k_bc crrrlrbo D 100000 s21.t s21.h) .norm s22 = true := by decide +kernel
theorem k23 : chkR eqMD (k_bc crrrlrbo D 100000 s22.t s22.h) .norm s23 = true := by decide +kernel
theorem k24 : chkR eqMD (k_bc crrrlrbo D 100000 s23.t s23.h) .norm s24 = true := by decide +kernel
theorem k25 : chkR eqMD (k_bc crrrlrbo D 100000 s24.t s24.h) .norm s25 = true := by decide +kernel
theorem k26 : chkR eqMD (k_bc crrrlrbo D 100000 s25.t s25.h) .norm s26 = true := by decide +kernel
theorem k27 : chkR eqMD (k_bc crrrlrbo D 100000 s26.t s26.h) .norm s27 = true := by decide +kernel
theorem k28 : chkR eqMD (k_bc crrrlrbo D 100000 s27.t s27.h) .norm s28 = true := by decide +kernel
theorem k29 : chkR eqMD (k_bc crrrlrbo D 100000 s28.t s28.h) .norm s29 = true := by decide +kernel
theorem k30 : chkR eqMD (k_bc crrrlrbo D 100000 s29.t s29.h) .norm s30 = true := by decide +kernel
theorem k31 : chkR eqMD (k_bc crrrlrbo D 100000 s30.t s30.h) .norm s31 = true := by decide +kernel
theorem k32 : chkR eqMD (k_bc crrrlrbo D 100000 s31.t s31.h) .norm s32 = true := by decide +kernel
theorem k33 : chkR eqMD (k_bc crrrlrbo D 100000 s32.t s32.h) .norm s33 = true := by decide +kernel
theorem k34 : chkR eqMD (k_bc crrrlrbo D 100000 s33.t s33.h) .norm s34 = true := by decide +kernel
theorem k35 : chkR eqMD (k_bc crrrlrbo D 100000 s34.t s34.h) .norm s35 = true := by decide +kernel
theorem k36 : chkR eqMD (k_bc crrrlrbo D 100000 s35.t s35.h) .norm s36 = true := by decide +kernel
theorem k37 : chkR eqMD (k_bc crrrlrbo D 100000 s36.t s36.h) .norm s37 = true := by decide +kernel
theorem k38 : chkR eqMD (k_bc crrrlrbo D 100000 s37.t s37.h) .norm s38 = true := by decide +kernel
theorem k39 : chkR eqMD (k_bc crrrlrbo D 100000 s38.t s38.h) .norm s39 = true := by decide +kernel
theorem k40 : chkR eqMD (k_bc crrrlrbo D 100000 s39.t s39.h) .norm s40 = true := by decide +kernel
theorem k41 : chkR eqMD (k_bc crrrlrbo D 100000 s40.t s40.h) .norm s41 = true := by decide +kernel
theorem k42 : chkR eqMD (k_bc crrrlrbo D 100000 s41.t s41.h) .norm s42 = true := by decide +kernel
theorem k43 : chkR eqMD (k_bc crrrlrbo D 100000 s42.t s42.h) (.brk 0) s43 = true := by decide +kernel
theorem k47 : chkR eqMD (k_bc crrrr D 100000 s43.t s43.h) .ret s47 = true := by decide +kernel
end C13
end Am
end Go.Proofs.Ytmfobcejnkakpaa
