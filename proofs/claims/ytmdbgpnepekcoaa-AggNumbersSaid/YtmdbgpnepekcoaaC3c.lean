/- AggNumbers: the walk. -/
import Derived.Test.YtmdbgpnepekcoaaC3b0
import Derived.Test.YtmdbgpnepekcoaaC3b1
import Derived.Test.YtmdbgpnepekcoaaC3b2
import Derived.Test.YtmdbgpnepekcoaaC3b3
import Derived.Test.YtmdbgpnepekcoaaC3b4
import Derived.Test.YtmdbgpnepekcoaaC3b5
import Derived.Test.YtmdbgpnepekcoaaC3b6
import Derived.Test.YtmdbgpnepekcoaaC3b7
import Derived.Test.YtmdbgpnepekcoaaC3b8
import Derived.Test.YtmdbgpnepekcoaaC3b9
import Derived.Test.YtmdbgpnepekcoaaC3b10
import Derived.Test.YtmdbgpnepekcoaaC3b11
namespace Go.Proofs.Ytmdbgpnepekcoaa
namespace Am
namespace C3
open Go.RowKit
set_option maxRecDepth 1000000
theorem e0 : EvB Try.prog O0 K NT cl s.t s.h (.norm s0.t s0.h) := ev_leaf hD hX 100000 k0
theorem e1 : EvB Try.prog O0 K NT crl s0.t s0.h (.norm s1.t s1.h) := ev_leaf hD hX 100000 k1
theorem e2 : EvB Try.prog O0 K NT crrl s1.t s1.h (.norm s2.t s2.h) := ev_leaf hD hX 100000 k2
theorem e3 : EvB Try.prog O0 K NT crrrll s2.t s2.h (.norm s3.t s3.h) := ev_leaf hD hX 100000 k3
theorem e4 : EvB Try.prog O0 K NT crrrlrbo s3.t s3.h (.norm s4.t s4.h) := ev_leaf hD hX 100000 k4
theorem e5 : EvB Try.prog O0 K NT crrrlrbo s4.t s4.h (.norm s5.t s5.h) := ev_leaf hD hX 100000 k5
theorem e6 : EvB Try.prog O0 K NT crrrlrbol s5.t s5.h (.norm s6.t s6.h) := ev_leaf hD hX 100000 k6
theorem e7 : EvB Try.prog O0 K NT crrrlrborlbll s6.t s6.h (.norm s7.t s7.h) := ev_leaf hD hX 100000 k7
theorem e8 : EvB Try.prog O0 K NT crrrlrborlblrbo s7.t s7.h (.norm s8.t s8.h) := ev_leaf hD hX 100000 k8
theorem e9 : EvB Try.prog O0 K NT crrrlrborlblrbo s8.t s8.h (.norm s9.t s9.h) := ev_leaf hD hX 100000 k9
theorem e10 : EvB Try.prog O0 K NT crrrlrborlblrbo s9.t s9.h (.norm s10.t s10.h) := ev_leaf hD hX 100000 k10
theorem e11 : EvB Try.prog O0 K NT crrrlrborlblrbo s10.t s10.h (.norm s11.t s11.h) := ev_leaf hD hX 100000 k11
theorem e12 : EvB Try.prog O0 K NT crrrlrborlblrbol s11.t s11.h (.norm s12.t s12.h) := ev_leaf hD hX 100000 k12
theorem e13 : EvB Try.prog O0 K NT crrrlrborlblrborlbl s12.t s12.h (.norm s13.t s13.h) := ev_leaf hD hX 100000 k13
theorem e14 : EvB Try.prog O0 K NT crrrlrborlblrborlbr s13.t s13.h (.norm s14.t s14.h) := ev_leaf hD hX 100000 k14
theorem e15 : EvB Try.prog O0 K NT crrrlrborlblrborlb s12.t s12.h (.norm s14.t s14.h) := ev_seq e13 e14
theorem e16 : EvB Try.prog O0 K NT crrrlrborlblrborl s12.t s12.h (.norm s14.t s14.h) := ev_block e15
theorem e17 : EvB Try.prog O0 K NT crrrlrborlblrborr s14.t s14.h (.norm s17.t s17.h) := ev_leaf hD hX 100000 k17
theorem e18 : EvB Try.prog O0 K NT crrrlrborlblrbor s12.t s12.h (.norm s17.t s17.h) := ev_seq e16 e17
theorem e19 : EvB Try.prog O0 K NT crrrlrborlblrbo s11.t s11.h (.norm s17.t s17.h) := ev_seq e12 e18
theorem e20 : EvB Try.prog O0 K NT crrrlrborlblrbol s17.t s17.h (.norm s20.t s20.h) := ev_leaf hD hX 100000 k20
theorem e21 : EvB Try.prog O0 K NT crrrlrborlblrborlbl s20.t s20.h (.norm s21.t s21.h) := ev_leaf hD hX 100000 k21
theorem e22 : EvB Try.prog O0 K NT crrrlrborlblrborlbr s21.t s21.h (.norm s22.t s22.h) := ev_leaf hD hX 100000 k22
theorem e23 : EvB Try.prog O0 K NT crrrlrborlblrborlb s20.t s20.h (.norm s22.t s22.h) := ev_seq e21 e22
theorem e24 : EvB Try.prog O0 K NT crrrlrborlblrborl s20.t s20.h (.norm s22.t s22.h) := ev_block e23
theorem e25 : EvB Try.prog O0 K NT crrrlrborlblrborr s22.t s22.h (.norm s25.t s25.h) := ev_leaf hD hX 100000 k25
theorem e26 : EvB Try.prog O0 K NT crrrlrborlblrbor s20.t s20.h (.norm s25.t s25.h) := ev_seq e24 e25
theorem e27 : EvB Try.prog O0 K NT crrrlrborlblrbo s17.t s17.h (.norm s25.t s25.h) := ev_seq e20 e26
theorem e28 : EvB Try.prog O0 K NT crrrlrborlblrbo s25.t s25.h (.brk 2 s28.t s28.h) := ev_leaf hD hX 100000 k28
theorem e29 : EvB Try.prog O0 K NT crrrlrborlblrb s7.t s7.h (.brk 2 s28.t s28.h) := ev_loop (evl_more e8 (evl_more e9 (evl_more e10 (evl_more e11 (evl_more e19 (evl_more e27 (evl_brk e28)))))))
theorem e30 : EvB Try.prog O0 K NT crrrlrborlblr s7.t s7.h (.norm s28.t s28.h) := ev_block_brk e29
theorem e31 : EvB Try.prog O0 K NT crrrlrborlbl s6.t s6.h (.norm s28.t s28.h) := ev_seq e7 e30
theorem e32 : EvB Try.prog O0 K NT crrrlrborlbr s28.t s28.h (.norm s32.t s32.h) := ev_leaf hD hX 100000 k32
theorem e33 : EvB Try.prog O0 K NT crrrlrborlb s6.t s6.h (.norm s32.t s32.h) := ev_seq e31 e32
theorem e34 : EvB Try.prog O0 K NT crrrlrborl s6.t s6.h (.norm s32.t s32.h) := ev_block e33
theorem e35 : EvB Try.prog O0 K NT crrrlrborr s32.t s32.h (.norm s35.t s35.h) := ev_leaf hD hX 100000 k35
theorem e36 : EvB Try.prog O0 K NT crrrlrbor s6.t s6.h (.norm s35.t s35.h) := ev_seq e34 e35
theorem e37 : EvB Try.prog O0 K NT crrrlrbo s5.t s5.h (.norm s35.t s35.h) := ev_seq e6 e36
theorem e38 : EvB Try.prog O0 K NT crrrlrbol s35.t s35.h (.norm s38.t s38.h) := ev_leaf hD hX 100000 k38
theorem e39 : EvB Try.prog O0 K NT crrrlrborlbll s38.t s38.h (.norm s39.t s39.h) := ev_leaf hD hX 100000 k39
theorem e40 : EvB Try.prog O0 K NT crrrlrborlblrbo s39.t s39.h (.norm s40.t s40.h) := ev_leaf hD hX 100000 k40
theorem e41 : EvB Try.prog O0 K NT crrrlrborlblrbo s40.t s40.h (.norm s41.t s41.h) := ev_leaf hD hX 100000 k41
theorem e42 : EvB Try.prog O0 K NT crrrlrborlblrbo s41.t s41.h (.norm s42.t s42.h) := ev_leaf hD hX 100000 k42
theorem e43 : EvB Try.prog O0 K NT crrrlrborlblrbo s42.t s42.h (.norm s43.t s43.h) := ev_leaf hD hX 100000 k43
theorem e44 : EvB Try.prog O0 K NT crrrlrborlblrbo s43.t s43.h (.norm s44.t s44.h) := ev_leaf hD hX 100000 k44
theorem e45 : EvB Try.prog O0 K NT crrrlrborlblrbol s44.t s44.h (.norm s45.t s45.h) := ev_leaf hD hX 100000 k45
theorem e46 : EvB Try.prog O0 K NT crrrlrborlblrborlbl s45.t s45.h (.norm s46.t s46.h) := ev_leaf hD hX 100000 k46
theorem e47 : EvB Try.prog O0 K NT crrrlrborlblrborlbr s46.t s46.h (.norm s47.t s47.h) := ev_leaf hD hX 100000 k47
theorem e48 : EvB Try.prog O0 K NT crrrlrborlblrborlb s45.t s45.h (.norm s47.t s47.h) := ev_seq e46 e47
theorem e49 : EvB Try.prog O0 K NT crrrlrborlblrborl s45.t s45.h (.norm s47.t s47.h) := ev_block e48
theorem e50 : EvB Try.prog O0 K NT crrrlrborlblrborr s47.t s47.h (.norm s50.t s50.h) := ev_leaf hD hX 100000 k50
theorem e51 : EvB Try.prog O0 K NT crrrlrborlblrbor s45.t s45.h (.norm s50.t s50.h) := ev_seq e49 e50
theorem e52 : EvB Try.prog O0 K NT crrrlrborlblrbo s44.t s44.h (.norm s50.t s50.h) := ev_seq e45 e51
theorem e53 : EvB Try.prog O0 K NT crrrlrborlblrbo s50.t s50.h (.brk 2 s53.t s53.h) := ev_leaf hD hX 100000 k53
theorem e54 : EvB Try.prog O0 K NT crrrlrborlblrb s39.t s39.h (.brk 2 s53.t s53.h) := ev_loop (evl_more e40 (evl_more e41 (evl_more e42 (evl_more e43 (evl_more e44 (evl_more e52 (evl_brk e53)))))))
theorem e55 : EvB Try.prog O0 K NT crrrlrborlblr s39.t s39.h (.norm s53.t s53.h) := ev_block_brk e54
theorem e56 : EvB Try.prog O0 K NT crrrlrborlbl s38.t s38.h (.norm s53.t s53.h) := ev_seq e39 e55
theorem e57 : EvB Try.prog O0 K NT crrrlrborlbr s53.t s53.h (.norm s57.t s57.h) := ev_leaf hD hX 100000 k57
theorem e58 : EvB Try.prog O0 K NT crrrlrborlb s38.t s38.h (.norm s57.t s57.h) := ev_seq e56 e57
theorem e59 : EvB Try.prog O0 K NT crrrlrborl s38.t s38.h (.norm s57.t s57.h) := ev_block e58
theorem e60 : EvB Try.prog O0 K NT crrrlrborr s57.t s57.h (.norm s60.t s60.h) := ev_leaf hD hX 100000 k60
theorem e61 : EvB Try.prog O0 K NT crrrlrbor s38.t s38.h (.norm s60.t s60.h) := ev_seq e59 e60
theorem e62 : EvB Try.prog O0 K NT crrrlrbo s35.t s35.h (.norm s60.t s60.h) := ev_seq e38 e61
theorem e63 : EvB Try.prog O0 K NT crrrlrbol s60.t s60.h (.norm s63.t s63.h) := ev_leaf hD hX 100000 k63
theorem e64 : EvB Try.prog O0 K NT crrrlrborlbll s63.t s63.h (.norm s64.t s64.h) := ev_leaf hD hX 100000 k64
theorem e65 : EvB Try.prog O0 K NT crrrlrborlblrbo s64.t s64.h (.norm s65.t s65.h) := ev_leaf hD hX 100000 k65
theorem e66 : EvB Try.prog O0 K NT crrrlrborlblrbo s65.t s65.h (.norm s66.t s66.h) := ev_leaf hD hX 100000 k66
theorem e67 : EvB Try.prog O0 K NT crrrlrborlblrbo s66.t s66.h (.norm s67.t s67.h) := ev_leaf hD hX 100000 k67
theorem e68 : EvB Try.prog O0 K NT crrrlrborlblrbo s67.t s67.h (.norm s68.t s68.h) := ev_leaf hD hX 100000 k68
theorem e69 : EvB Try.prog O0 K NT crrrlrborlblrbo s68.t s68.h (.norm s69.t s69.h) := ev_leaf hD hX 100000 k69
theorem e70 : EvB Try.prog O0 K NT crrrlrborlblrbol s69.t s69.h (.norm s70.t s70.h) := ev_leaf hD hX 100000 k70
theorem e71 : EvB Try.prog O0 K NT crrrlrborlblrborlbl s70.t s70.h (.norm s71.t s71.h) := ev_leaf hD hX 100000 k71
theorem e72 : EvB Try.prog O0 K NT crrrlrborlblrborlbr s71.t s71.h (.norm s72.t s72.h) := ev_leaf hD hX 100000 k72
theorem e73 : EvB Try.prog O0 K NT crrrlrborlblrborlb s70.t s70.h (.norm s72.t s72.h) := ev_seq e71 e72
theorem e74 : EvB Try.prog O0 K NT crrrlrborlblrborl s70.t s70.h (.norm s72.t s72.h) := ev_block e73
theorem e75 : EvB Try.prog O0 K NT crrrlrborlblrborr s72.t s72.h (.norm s75.t s75.h) := ev_leaf hD hX 100000 k75
theorem e76 : EvB Try.prog O0 K NT crrrlrborlblrbor s70.t s70.h (.norm s75.t s75.h) := ev_seq e74 e75
theorem e77 : EvB Try.prog O0 K NT crrrlrborlblrbo s69.t s69.h (.norm s75.t s75.h) := ev_seq e70 e76
theorem e78 : EvB Try.prog O0 K NT crrrlrborlblrbo s75.t s75.h (.brk 2 s78.t s78.h) := ev_leaf hD hX 100000 k78
theorem e79 : EvB Try.prog O0 K NT crrrlrborlblrb s64.t s64.h (.brk 2 s78.t s78.h) := ev_loop (evl_more e65 (evl_more e66 (evl_more e67 (evl_more e68 (evl_more e69 (evl_more e77 (evl_brk e78)))))))
theorem e80 : EvB Try.prog O0 K NT crrrlrborlblr s64.t s64.h (.norm s78.t s78.h) := ev_block_brk e79
theorem e81 : EvB Try.prog O0 K NT crrrlrborlbl s63.t s63.h (.norm s78.t s78.h) := ev_seq e64 e80
theorem e82 : EvB Try.prog O0 K NT crrrlrborlbr s78.t s78.h (.norm s82.t s82.h) := ev_leaf hD hX 100000 k82
theorem e83 : EvB Try.prog O0 K NT crrrlrborlb s63.t s63.h (.norm s82.t s82.h) := ev_seq e81 e82
theorem e84 : EvB Try.prog O0 K NT crrrlrborl s63.t s63.h (.norm s82.t s82.h) := ev_block e83
theorem e85 : EvB Try.prog O0 K NT crrrlrborr s82.t s82.h (.norm s85.t s85.h) := ev_leaf hD hX 100000 k85
theorem e86 : EvB Try.prog O0 K NT crrrlrbor s63.t s63.h (.norm s85.t s85.h) := ev_seq e84 e85
theorem e87 : EvB Try.prog O0 K NT crrrlrbo s60.t s60.h (.norm s85.t s85.h) := ev_seq e63 e86
theorem e88 : EvB Try.prog O0 K NT crrrlrbol s85.t s85.h (.norm s88.t s88.h) := ev_leaf hD hX 100000 k88
theorem e89 : EvB Try.prog O0 K NT crrrlrborlbll s88.t s88.h (.norm s89.t s89.h) := ev_leaf hD hX 100000 k89
theorem e90 : EvB Try.prog O0 K NT crrrlrborlblrbo s89.t s89.h (.norm s90.t s90.h) := ev_leaf hD hX 100000 k90
theorem e91 : EvB Try.prog O0 K NT crrrlrborlblrbo s90.t s90.h (.norm s91.t s91.h) := ev_leaf hD hX 100000 k91
theorem e92 : EvB Try.prog O0 K NT crrrlrborlblrbo s91.t s91.h (.norm s92.t s92.h) := ev_leaf hD hX 100000 k92
theorem e93 : EvB Try.prog O0 K NT crrrlrborlblrbo s92.t s92.h (.norm s93.t s93.h) := ev_leaf hD hX 100000 k93
theorem e94 : EvB Try.prog O0 K NT crrrlrborlblrbol s93.t s93.h (.norm s94.t s94.h) := ev_leaf hD hX 100000 k94
theorem e95 : EvB Try.prog O0 K NT crrrlrborlblrborlbl s94.t s94.h (.norm s95.t s95.h) := ev_leaf hD hX 100000 k95
theorem e96 : EvB Try.prog O0 K NT crrrlrborlblrborlbr s95.t s95.h (.norm s96.t s96.h) := ev_leaf hD hX 100000 k96
theorem e97 : EvB Try.prog O0 K NT crrrlrborlblrborlb s94.t s94.h (.norm s96.t s96.h) := ev_seq e95 e96
theorem e98 : EvB Try.prog O0 K NT crrrlrborlblrborl s94.t s94.h (.norm s96.t s96.h) := ev_block e97
theorem e99 : EvB Try.prog O0 K NT crrrlrborlblrborr s96.t s96.h (.norm s99.t s99.h) := ev_leaf hD hX 100000 k99
theorem e100 : EvB Try.prog O0 K NT crrrlrborlblrbor s94.t s94.h (.norm s99.t s99.h) := ev_seq e98 e99
theorem e101 : EvB Try.prog O0 K NT crrrlrborlblrbo s93.t s93.h (.norm s99.t s99.h) := ev_seq e94 e100
theorem e102 : EvB Try.prog O0 K NT crrrlrborlblrbol s99.t s99.h (.norm s102.t s102.h) := ev_leaf hD hX 100000 k102
theorem e103 : EvB Try.prog O0 K NT crrrlrborlblrborlbl s102.t s102.h (.norm s103.t s103.h) := ev_leaf hD hX 100000 k103
theorem e104 : EvB Try.prog O0 K NT crrrlrborlblrborlbr s103.t s103.h (.norm s104.t s104.h) := ev_leaf hD hX 100000 k104
theorem e105 : EvB Try.prog O0 K NT crrrlrborlblrborlb s102.t s102.h (.norm s104.t s104.h) := ev_seq e103 e104
theorem e106 : EvB Try.prog O0 K NT crrrlrborlblrborl s102.t s102.h (.norm s104.t s104.h) := ev_block e105
theorem e107 : EvB Try.prog O0 K NT crrrlrborlblrborr s104.t s104.h (.norm s107.t s107.h) := ev_leaf hD hX 100000 k107
theorem e108 : EvB Try.prog O0 K NT crrrlrborlblrbor s102.t s102.h (.norm s107.t s107.h) := ev_seq e106 e107
theorem e109 : EvB Try.prog O0 K NT crrrlrborlblrbo s99.t s99.h (.norm s107.t s107.h) := ev_seq e102 e108
theorem e110 : EvB Try.prog O0 K NT crrrlrborlblrbo s107.t s107.h (.brk 2 s110.t s110.h) := ev_leaf hD hX 100000 k110
theorem e111 : EvB Try.prog O0 K NT crrrlrborlblrb s89.t s89.h (.brk 2 s110.t s110.h) := ev_loop (evl_more e90 (evl_more e91 (evl_more e92 (evl_more e93 (evl_more e101 (evl_more e109 (evl_brk e110)))))))
theorem e112 : EvB Try.prog O0 K NT crrrlrborlblr s89.t s89.h (.norm s110.t s110.h) := ev_block_brk e111
theorem e113 : EvB Try.prog O0 K NT crrrlrborlbl s88.t s88.h (.norm s110.t s110.h) := ev_seq e89 e112
theorem e114 : EvB Try.prog O0 K NT crrrlrborlbr s110.t s110.h (.norm s114.t s114.h) := ev_leaf hD hX 100000 k114
theorem e115 : EvB Try.prog O0 K NT crrrlrborlb s88.t s88.h (.norm s114.t s114.h) := ev_seq e113 e114
theorem e116 : EvB Try.prog O0 K NT crrrlrborl s88.t s88.h (.norm s114.t s114.h) := ev_block e115
theorem e117 : EvB Try.prog O0 K NT crrrlrborr s114.t s114.h (.norm s117.t s117.h) := ev_leaf hD hX 100000 k117
theorem e118 : EvB Try.prog O0 K NT crrrlrbor s88.t s88.h (.norm s117.t s117.h) := ev_seq e116 e117
theorem e119 : EvB Try.prog O0 K NT crrrlrbo s85.t s85.h (.norm s117.t s117.h) := ev_seq e88 e118
theorem e120 : EvB Try.prog O0 K NT crrrlrbol s117.t s117.h (.norm s120.t s120.h) := ev_leaf hD hX 100000 k120
theorem e121 : EvB Try.prog O0 K NT crrrlrborlbll s120.t s120.h (.norm s121.t s121.h) := ev_leaf hD hX 100000 k121
theorem e122 : EvB Try.prog O0 K NT crrrlrborlblrbo s121.t s121.h (.norm s122.t s122.h) := ev_leaf hD hX 100000 k122
theorem e123 : EvB Try.prog O0 K NT crrrlrborlblrbo s122.t s122.h (.norm s123.t s123.h) := ev_leaf hD hX 100000 k123
theorem e124 : EvB Try.prog O0 K NT crrrlrborlblrbo s123.t s123.h (.norm s124.t s124.h) := ev_leaf hD hX 100000 k124
theorem e125 : EvB Try.prog O0 K NT crrrlrborlblrbo s124.t s124.h (.norm s125.t s125.h) := ev_leaf hD hX 100000 k125
theorem e126 : EvB Try.prog O0 K NT crrrlrborlblrbo s125.t s125.h (.norm s126.t s126.h) := ev_leaf hD hX 100000 k126
theorem e127 : EvB Try.prog O0 K NT crrrlrborlblrbo s126.t s126.h (.norm s127.t s127.h) := ev_leaf hD hX 100000 k127
theorem e128 : EvB Try.prog O0 K NT crrrlrborlblrbo s127.t s127.h (.brk 2 s128.t s128.h) := ev_leaf hD hX 100000 k128
theorem e129 : EvB Try.prog O0 K NT crrrlrborlblrb s121.t s121.h (.brk 2 s128.t s128.h) := ev_loop (evl_more e122 (evl_more e123 (evl_more e124 (evl_more e125 (evl_more e126 (evl_more e127 (evl_brk e128)))))))
theorem e130 : EvB Try.prog O0 K NT crrrlrborlblr s121.t s121.h (.norm s128.t s128.h) := ev_block_brk e129
theorem e131 : EvB Try.prog O0 K NT crrrlrborlbl s120.t s120.h (.norm s128.t s128.h) := ev_seq e121 e130
theorem e132 : EvB Try.prog O0 K NT crrrlrborlbr s128.t s128.h (.norm s132.t s132.h) := ev_leaf hD hX 100000 k132
theorem e133 : EvB Try.prog O0 K NT crrrlrborlb s120.t s120.h (.norm s132.t s132.h) := ev_seq e131 e132
theorem e134 : EvB Try.prog O0 K NT crrrlrborl s120.t s120.h (.norm s132.t s132.h) := ev_block e133
theorem e135 : EvB Try.prog O0 K NT crrrlrborr s132.t s132.h (.norm s135.t s135.h) := ev_leaf hD hX 100000 k135
theorem e136 : EvB Try.prog O0 K NT crrrlrbor s120.t s120.h (.norm s135.t s135.h) := ev_seq e134 e135
theorem e137 : EvB Try.prog O0 K NT crrrlrbo s117.t s117.h (.norm s135.t s135.h) := ev_seq e120 e136
theorem e138 : EvB Try.prog O0 K NT crrrlrbol s135.t s135.h (.norm s138.t s138.h) := ev_leaf hD hX 100000 k138
theorem e139 : EvB Try.prog O0 K NT crrrlrborlbll s138.t s138.h (.norm s139.t s139.h) := ev_leaf hD hX 100000 k139
theorem e140 : EvB Try.prog O0 K NT crrrlrborlblrbo s139.t s139.h (.norm s140.t s140.h) := ev_leaf hD hX 100000 k140
theorem e141 : EvB Try.prog O0 K NT crrrlrborlblrbo s140.t s140.h (.norm s141.t s141.h) := ev_leaf hD hX 100000 k141
theorem e142 : EvB Try.prog O0 K NT crrrlrborlblrbo s141.t s141.h (.norm s142.t s142.h) := ev_leaf hD hX 100000 k142
theorem e143 : EvB Try.prog O0 K NT crrrlrborlblrbo s142.t s142.h (.norm s143.t s143.h) := ev_leaf hD hX 100000 k143
theorem e144 : EvB Try.prog O0 K NT crrrlrborlblrbo s143.t s143.h (.norm s144.t s144.h) := ev_leaf hD hX 100000 k144
theorem e145 : EvB Try.prog O0 K NT crrrlrborlblrbo s144.t s144.h (.norm s145.t s145.h) := ev_leaf hD hX 100000 k145
theorem e146 : EvB Try.prog O0 K NT crrrlrborlblrbo s145.t s145.h (.brk 2 s146.t s146.h) := ev_leaf hD hX 100000 k146
theorem e147 : EvB Try.prog O0 K NT crrrlrborlblrb s139.t s139.h (.brk 2 s146.t s146.h) := ev_loop (evl_more e140 (evl_more e141 (evl_more e142 (evl_more e143 (evl_more e144 (evl_more e145 (evl_brk e146)))))))
theorem e148 : EvB Try.prog O0 K NT crrrlrborlblr s139.t s139.h (.norm s146.t s146.h) := ev_block_brk e147
theorem e149 : EvB Try.prog O0 K NT crrrlrborlbl s138.t s138.h (.norm s146.t s146.h) := ev_seq e139 e148
theorem e150 : EvB Try.prog O0 K NT crrrlrborlbr s146.t s146.h (.norm s150.t s150.h) := ev_leaf hD hX 100000 k150
theorem e151 : EvB Try.prog O0 K NT crrrlrborlb s138.t s138.h (.norm s150.t s150.h) := ev_seq e149 e150
theorem e152 : EvB Try.prog O0 K NT crrrlrborl s138.t s138.h (.norm s150.t s150.h) := ev_block e151
theorem e153 : EvB Try.prog O0 K NT crrrlrborr s150.t s150.h (.norm s153.t s153.h) := ev_leaf hD hX 100000 k153
theorem e154 : EvB Try.prog O0 K NT crrrlrbor s138.t s138.h (.norm s153.t s153.h) := ev_seq e152 e153
theorem e155 : EvB Try.prog O0 K NT crrrlrbo s135.t s135.h (.norm s153.t s153.h) := ev_seq e138 e154
theorem e156 : EvB Try.prog O0 K NT crrrlrbol s153.t s153.h (.norm s156.t s156.h) := ev_leaf hD hX 100000 k156
theorem e157 : EvB Try.prog O0 K NT crrrlrborlbll s156.t s156.h (.norm s157.t s157.h) := ev_leaf hD hX 100000 k157
theorem e158 : EvB Try.prog O0 K NT crrrlrborlblrbo s157.t s157.h (.norm s158.t s158.h) := ev_leaf hD hX 100000 k158
theorem e159 : EvB Try.prog O0 K NT crrrlrborlblrbo s158.t s158.h (.norm s159.t s159.h) := ev_leaf hD hX 100000 k159
theorem e160 : EvB Try.prog O0 K NT crrrlrborlblrbo s159.t s159.h (.norm s160.t s160.h) := ev_leaf hD hX 100000 k160
theorem e161 : EvB Try.prog O0 K NT crrrlrborlblrbo s160.t s160.h (.norm s161.t s161.h) := ev_leaf hD hX 100000 k161
theorem e162 : EvB Try.prog O0 K NT crrrlrborlblrbo s161.t s161.h (.norm s162.t s162.h) := ev_leaf hD hX 100000 k162
theorem e163 : EvB Try.prog O0 K NT crrrlrborlblrbo s162.t s162.h (.norm s163.t s163.h) := ev_leaf hD hX 100000 k163
theorem e164 : EvB Try.prog O0 K NT crrrlrborlblrbo s163.t s163.h (.brk 2 s164.t s164.h) := ev_leaf hD hX 100000 k164
theorem e165 : EvB Try.prog O0 K NT crrrlrborlblrb s157.t s157.h (.brk 2 s164.t s164.h) := ev_loop (evl_more e158 (evl_more e159 (evl_more e160 (evl_more e161 (evl_more e162 (evl_more e163 (evl_brk e164)))))))
theorem e166 : EvB Try.prog O0 K NT crrrlrborlblr s157.t s157.h (.norm s164.t s164.h) := ev_block_brk e165
theorem e167 : EvB Try.prog O0 K NT crrrlrborlbl s156.t s156.h (.norm s164.t s164.h) := ev_seq e157 e166
theorem e168 : EvB Try.prog O0 K NT crrrlrborlbr s164.t s164.h (.norm s168.t s168.h) := ev_leaf hD hX 100000 k168
theorem e169 : EvB Try.prog O0 K NT crrrlrborlb s156.t s156.h (.norm s168.t s168.h) := ev_seq e167 e168
theorem e170 : EvB Try.prog O0 K NT crrrlrborl s156.t s156.h (.norm s168.t s168.h) := ev_block e169
theorem e171 : EvB Try.prog O0 K NT crrrlrborr s168.t s168.h (.norm s171.t s171.h) := ev_leaf hD hX 100000 k171
theorem e172 : EvB Try.prog O0 K NT crrrlrbor s156.t s156.h (.norm s171.t s171.h) := ev_seq e170 e171
theorem e173 : EvB Try.prog O0 K NT crrrlrbo s153.t s153.h (.norm s171.t s171.h) := ev_seq e156 e172
theorem e174 : EvB Try.prog O0 K NT crrrlrbo s171.t s171.h (.norm s174.t s174.h) := ev_leaf hD hX 100000 k174
theorem e175 : EvB Try.prog O0 K NT crrrlrbo s174.t s174.h (.brk 0 s175.t s175.h) := ev_leaf hD hX 100000 k175
theorem e176 : EvB Try.prog O0 K NT crrrlrb s3.t s3.h (.brk 0 s175.t s175.h) := ev_loop (evl_more e4 (evl_more e5 (evl_more e37 (evl_more e62 (evl_more e87 (evl_more e119 (evl_more e137 (evl_more e155 (evl_more e173 (evl_more e174 (evl_brk e175)))))))))))
theorem e177 : EvB Try.prog O0 K NT crrrlr s3.t s3.h (.norm s175.t s175.h) := ev_block_brk e176
theorem e178 : EvB Try.prog O0 K NT crrrl s2.t s2.h (.norm s175.t s175.h) := ev_seq e3 e177
theorem e179 : EvB Try.prog O0 K NT crrrr s175.t s175.h (.ret s179.t s179.h) := ev_leaf hD hX 100000 k179
theorem e180 : EvB Try.prog O0 K NT crrr s2.t s2.h (.ret s179.t s179.h) := ev_seq e178 e179
theorem e181 : EvB Try.prog O0 K NT crr s1.t s1.h (.ret s179.t s179.h) := ev_seq e2 e180
theorem e182 : EvB Try.prog O0 K NT cr s0.t s0.h (.ret s179.t s179.h) := ev_seq e1 e181
theorem e183 : EvB Try.prog O0 K NT c s.t s.h (.ret s179.t s179.h) := ev_seq e0 e182
theorem walk (W : World) : Calls Try.prog 3 #[] W fun e W' => e = .returned (.bool true) ∧ Below W.heap.size W W' := closed_law topf e183 (by rfl) W
end C3
end Am
end Go.Proofs.Ytmdbgpnepekcoaa
