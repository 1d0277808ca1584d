/- ManifestNumbers: the walk. -/
import Derived.Test.YtmfobcejnkakpaaC17b0
import Derived.Test.YtmfobcejnkakpaaC17b1
import Derived.Test.YtmfobcejnkakpaaC17b2
import Derived.Test.YtmfobcejnkakpaaC17b3
namespace Go.Proofs.Ytmfobcejnkakpaa
namespace Am
namespace C17
open Go.RowKit
set_option maxRecDepth 1000000
theorem e0 : EvB Try.prog OD K NT cl s.t s.h (.norm s0.t s0.h) := ev_leaf hD hX 100000 k0
theorem e1 : EvB Try.prog OD K NT crl s0.t s0.h (.norm s1.t s1.h) := ev_leaf hD hX 100000 k1
theorem e2 : EvB Try.prog OD K NT crrl s1.t s1.h (.norm s2.t s2.h) := ev_leaf hD hX 100000 k2
theorem e3 : EvB Try.prog OD K NT crrrll s2.t s2.h (.norm s3.t s3.h) := ev_leaf hD hX 100000 k3
theorem e4 : EvB Try.prog OD K NT crrrlrbo s3.t s3.h (.norm s4.t s4.h) := ev_leaf hD hX 100000 k4
theorem e5 : EvB Try.prog OD K NT crrrlrbo s4.t s4.h (.norm s5.t s5.h) := ev_leaf hD hX 100000 k5
theorem e6 : EvB Try.prog OD K NT crrrlrbo s5.t s5.h (.norm s6.t s6.h) := ev_leaf hD hX 100000 k6
theorem e7 : EvB Try.prog OD K NT crrrlrbo s6.t s6.h (.norm s7.t s7.h) := ev_leaf hD hX 100000 k7
theorem e8 : EvB Try.prog OD K NT crrrlrbo s7.t s7.h (.norm s8.t s8.h) := ev_leaf hD hX 100000 k8
theorem e9 : EvB Try.prog OD K NT crrrlrbo s8.t s8.h (.norm s9.t s9.h) := ev_leaf hD hX 100000 k9
theorem e10 : EvB Try.prog OD K NT crrrlrbo s9.t s9.h (.norm s10.t s10.h) := ev_leaf hD hX 100000 k10
theorem e11 : EvB Try.prog OD K NT crrrlrbo s10.t s10.h (.norm s11.t s11.h) := ev_leaf hD hX 100000 k11
theorem e12 : EvB Try.prog OD K NT crrrlrbo s11.t s11.h (.norm s12.t s12.h) := ev_leaf hD hX 100000 k12
theorem e13 : EvB Try.prog OD K NT crrrlrbo s12.t s12.h (.norm s13.t s13.h) := ev_leaf hD hX 100000 k13
theorem e14 : EvB Try.prog OD K NT crrrlrbol s13.t s13.h (.norm s14.t s14.h) := ev_leaf hD hX 100000 k14
theorem e15 : EvB Try.prog OD K NT crrrlrborl s14.t s14.h (.norm s15.t s15.h) := ev_leaf hD hX 100000 k15
theorem e16 : EvB Try.prog OD K NT crrrlrborrlbl s15.t s15.h (.norm s16.t s16.h) := ev_leaf hD hX 100000 k16
theorem e17 : EvB Try.prog OD K NT crrrlrborrlbrl s16.t s16.h (.norm s17.t s17.h) := ev_leaf hD hX 100000 k17
theorem e18 : EvB Try.prog OD K NT crrrlrborrlbrr s17.t s17.h (.norm s18.t s18.h) := ev_leaf hD hX 100000 k18
theorem e19 : EvB Try.prog OD K NT crrrlrborrlbr s16.t s16.h (.norm s18.t s18.h) := ev_seq e17 e18
theorem e20 : EvB Try.prog OD K NT crrrlrborrlb s15.t s15.h (.norm s18.t s18.h) := ev_seq e16 e19
theorem e21 : EvB Try.prog OD K NT crrrlrborrl s15.t s15.h (.norm s18.t s18.h) := ev_block e20
theorem e22 : EvB Try.prog OD K NT crrrlrborrr s18.t s18.h (.norm s22.t s22.h) := ev_leaf hD hX 100000 k22
theorem e23 : EvB Try.prog OD K NT crrrlrborr s15.t s15.h (.norm s22.t s22.h) := ev_seq e21 e22
theorem e24 : EvB Try.prog OD K NT crrrlrbor s14.t s14.h (.norm s22.t s22.h) := ev_seq e15 e23
theorem e25 : EvB Try.prog OD K NT crrrlrbo s13.t s13.h (.norm s22.t s22.h) := ev_seq e14 e24
theorem e26 : EvB Try.prog OD K NT crrrlrbo s22.t s22.h (.brk 2 s26.t s26.h) := ev_leaf hD hX 100000 k26
theorem e27 : EvB Try.prog OD K NT crrrlrb s3.t s3.h (.brk 2 s26.t s26.h) := ev_loop (evl_more e4 (evl_more e5 (evl_more e6 (evl_more e7 (evl_more e8 (evl_more e9 (evl_more e10 (evl_more e11 (evl_more e12 (evl_more e13 (evl_more e25 (evl_brk e26))))))))))))
theorem e28 : EvB Try.prog OD K NT crrrlr s3.t s3.h (.norm s26.t s26.h) := ev_block_brk e27
theorem e29 : EvB Try.prog OD K NT crrrl s2.t s2.h (.norm s26.t s26.h) := ev_seq e3 e28
theorem e30 : EvB Try.prog OD K NT crrrrl s26.t s26.h (.norm s30.t s30.h) := ev_leaf hD hX 100000 k30
theorem e31 : EvB Try.prog OD K NT crrrrrl s30.t s30.h (.norm s31.t s31.h) := ev_leaf hD hX 100000 k31
theorem e32 : EvB Try.prog OD K NT crrrrrrl s31.t s31.h (.norm s32.t s32.h) := ev_leaf hD hX 100000 k32
theorem e33 : EvB Try.prog OD K NT crrrrrrrll s32.t s32.h (.norm s33.t s33.h) := ev_leaf hD hX 100000 k33
theorem e34 : EvB Try.prog OD K NT crrrrrrrlrbo s33.t s33.h (.norm s34.t s34.h) := ev_leaf hD hX 100000 k34
theorem e35 : EvB Try.prog OD K NT crrrrrrrlrbo s34.t s34.h (.norm s35.t s35.h) := ev_leaf hD hX 100000 k35
theorem e36 : EvB Try.prog OD K NT crrrrrrrlrbo s35.t s35.h (.norm s36.t s36.h) := ev_leaf hD hX 100000 k36
theorem e37 : EvB Try.prog OD K NT crrrrrrrlrbo s36.t s36.h (.norm s37.t s37.h) := ev_leaf hD hX 100000 k37
theorem e38 : EvB Try.prog OD K NT crrrrrrrlrbo s37.t s37.h (.norm s38.t s38.h) := ev_leaf hD hX 100000 k38
theorem e39 : EvB Try.prog OD K NT crrrrrrrlrbo s38.t s38.h (.norm s39.t s39.h) := ev_leaf hD hX 100000 k39
theorem e40 : EvB Try.prog OD K NT crrrrrrrlrbo s39.t s39.h (.norm s40.t s40.h) := ev_leaf hD hX 100000 k40
theorem e41 : EvB Try.prog OD K NT crrrrrrrlrbo s40.t s40.h (.brk 6 s41.t s41.h) := ev_leaf hD hX 100000 k41
theorem e42 : EvB Try.prog OD K NT crrrrrrrlrb s33.t s33.h (.brk 6 s41.t s41.h) := ev_loop (evl_more e34 (evl_more e35 (evl_more e36 (evl_more e37 (evl_more e38 (evl_more e39 (evl_more e40 (evl_brk e41))))))))
theorem e43 : EvB Try.prog OD K NT crrrrrrrlr s33.t s33.h (.norm s41.t s41.h) := ev_block_brk e42
theorem e44 : EvB Try.prog OD K NT crrrrrrrl s32.t s32.h (.norm s41.t s41.h) := ev_seq e33 e43
theorem e45 : EvB Try.prog OD K NT crrrrrrrr s41.t s41.h (.ret s45.t s45.h) := ev_leaf hD hX 100000 k45
theorem e46 : EvB Try.prog OD K NT crrrrrrr s32.t s32.h (.ret s45.t s45.h) := ev_seq e44 e45
theorem e47 : EvB Try.prog OD K NT crrrrrr s31.t s31.h (.ret s45.t s45.h) := ev_seq e32 e46
theorem e48 : EvB Try.prog OD K NT crrrrr s30.t s30.h (.ret s45.t s45.h) := ev_seq e31 e47
theorem e49 : EvB Try.prog OD K NT crrrr s26.t s26.h (.ret s45.t s45.h) := ev_seq e30 e48
theorem e50 : EvB Try.prog OD K NT crrr s2.t s2.h (.ret s45.t s45.h) := ev_seq e29 e49
theorem e51 : EvB Try.prog OD K NT crr s1.t s1.h (.ret s45.t s45.h) := ev_seq e2 e50
theorem e52 : EvB Try.prog OD K NT cr s0.t s0.h (.ret s45.t s45.h) := ev_seq e1 e51
theorem e53 : EvB Try.prog OD K NT c s.t s.h (.ret s45.t s45.h) := ev_seq e0 e52
theorem walk (W : World) : Calls Try.prog 17 #[] W fun e W' => e = .returned (.bool true) ∧ Below W.heap.size W W' := closed_law topf e53 (by rfl) W
end C17
end Am
end Go.Proofs.Ytmfobcejnkakpaa
