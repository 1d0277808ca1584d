/- ManifestReads: the law, walked. -/
import Derived.Test.YthgcdoahoechhaaMJ
set_option linter.unusedVariables false
set_option linter.unusedSimpArgs false
namespace Go.Proofs.Ythgcdoahoechhaa
namespace Am
open Go.RowKit
set_option maxRecDepth 100000
def b_ManifestReads : BF := ⟨143, [0, 1, 2, 3, 4, 5, 12, 13, 14, 15, 17, 18, 19, 20, 21, 22, 23, 24, 25, 26, 27, 28, 29, 30, 65, 66, 67, 68, 75, 103, 140], (.seq (.reg [.mk none (.slot 6) (.mov (.mv (.const (.bool false))))]) (.seq (.reg [.mk none (.env 31) (.mov (.mv (.slot 0))), .mk none (.env 32) (.mov (.mv (.slot 1))), .mk none (.env 33) (.mov (.mv (.slot 2))), .mk none (.env 34) (.call 34 [(.env 31), (.env 32), (.env 33)]), .mk none (.slot 7) (.eff (.alloc [.snil, (.int .i64 0), (.int .i64 0)])), .mk none .none (.eff (.store 3 (.slot 7) (.env 34)))]) (.seq (.reg [.mk none (.env 35) (.mov (.faddr 0 (.slot 7))), .mk none (.env 36) (.mov (.ld1 (.env 35))), .mk none (.env 37) (.mov (.faddr 1 (.slot 7))), .mk none (.env 38) (.mov (.ld1 (.env 37))), .mk none (.env 39) (.mov (.faddr 2 (.slot 7))), .mk none (.env 40) (.mov (.ld1 (.env 39))), .mk none (.env 41) (.call 35 [(.env 36), (.env 38), (.env 40)]), .mk none (.env 42) (.call 42 [(.const .snil), (.env 41)]), .mk none (.slot 8) (.mov (.mv (.env 42)))]) (.seq (.reg [.mk none (.env 43) (.eff (.bslice 1 0 [(.int .u8 0)] [])), .mk none (.env 44) (.mov (.mv (.slot 8))), .mk none (.env 45) (.eff (.append 1 1 (.env 43) (.env 44))), .mk none (.slot 9) (.mov (.mv (.env 45)))]) (.seq (.reg [.mk none (.env 46) (.mov (.mv (.slot 9))), .mk none (.env 47) (.mov (.mv (.slot 4))), .mk none (.env 48) (.mov (.mv (.slot 9))), .mk none (.env 49) (.mov (.lenv (.env 48))), .mk none (.env 50) (.mov (.bin .sub .no (.env 49) (.const (.int .i64 1)))), .mk none (.env 51) (.call 12 [(.env 47), (.const (.int .i64 0)), (.env 50)]), .mk none (.env 52) (.mov (.iaddr 1 (.env 46) (.env 51))), .mk none (.env 53) (.mov (.ld1 (.env 52))), .mk none (.env 54) (.mov (.mv (.slot 5))), .mk none (.env 55) (.mov (.bin .xor .no (.env 53) (.env 54))), .mk none (.env 56) (.mov (.iaddr 1 (.env 46) (.env 51))), .mk none .none (.eff (.store 1 (.env 56) (.env 55)))]) (.seq (.seq (.reg [.mk none (.env 57) (.mov (.mv (.slot 8))), .mk none (.env 58) (.mov (.mv (.slot 9))), .mk none (.env 59) (.mov (.mv (.slot 3))), .mk none (.env 60) (.eff (.bslice 1 0 [(.int .u8 0)] [])), .mk none (.env 61) (.mov (.mv (.slot 8))), .mk none (.env 62) (.eff (.append 1 1 (.env 60) (.env 61))), .mk none (.env 63) (.mov (.mv (.slot 3))), .mk none (.env 64) (.eff (.append 1 1 (.env 62) (.env 63))), .mk none (.slot 24) (.eff (.bslice 1 4 [.snil] [(0, 1, (.env 57)), (1, 1, (.env 58)), (2, 1, (.env 59)), (3, 1, (.env 64))])), .mk none (.slot 25) (.mov (.lenv (.slot 24))), .mk none (.slot 26) (.mov (.mv (.const (.int .i64 0))))]) (.block 0 (.loop (.seq (.reg [.mk none (.slot 27) (.mov (.bin .lss .no (.slot 26) (.slot 25)))]) (.seq (.cond (.slot 27) .skip (.exit 0)) (.seq (.block 1 (.seq (.reg [.mk none (.env 69) (.mov (.iaddr 1 (.slot 24) (.slot 26))), .mk none (.env 70) (.mov (.ld1 (.env 69))), .mk none (.slot 10) (.mov (.mv (.env 70)))]) (.seq (.reg [.mk none (.env 71) (.mov (.mv (.slot 10))), .mk none (.env 72) (.call 27 [(.env 71), (.const (.int .i64 200))]), .mk none (.env 73) (.call 43 [(.const (.str [108, 105, 115, 116])), (.env 72)]), .mk none (.slot 11) (.mov (.mv (.env 73)))]) (.seq (.seq (.reg [.mk none (.env 74) (.mov (.mv (.slot 11))), .mk none (.slot 28) (.mov (.bin .eql .ptr (.env 74) (.const .nilp)))]) (.cond (.slot 28) (.seq (.reg [.mk none (.slot 6) (.mov (.mv (.const (.bool false))))]) .ret) .skip)) (.seq (.reg [.mk none (.env 77) (.mov (.mv (.slot 11))), .mk none (.env 78) (.call 44 [(.env 77)]), .mk none (.env 76) (.mov (.mv (.env 78))), .mk none (.env 79) (.mov (.ext 0 (.env 76))), .mk none (.env 80) (.mov (.ext 1 (.env 76))), .mk none (.env 81) (.mov (.ext 2 (.env 76))), .mk none (.slot 12) (.eff (.alloc [.snil, (.int .i64 0), (.int .i64 0)])), .mk none .none (.eff (.store 3 (.slot 12) (.env 79))), .mk none (.slot 13) (.mov (.mv (.env 80))), .mk none (.slot 14) (.mov (.mv (.env 81)))]) (.seq (.reg [.mk none (.env 83) (.mov (.mv (.slot 10))), .mk none (.env 84) (.call 27 [(.env 83), (.const (.int .i64 200))]), .mk none (.env 85) (.call 45 [(.env 84)]), .mk none (.env 82) (.mov (.mv (.env 85))), .mk none (.env 86) (.mov (.ext 0 (.env 82))), .mk none (.env 87) (.mov (.ext 1 (.env 82))), .mk none (.env 88) (.mov (.ext 2 (.env 82))), .mk none (.slot 15) (.mov (.mv (.env 86))), .mk none (.slot 16) (.mov (.mv (.env 87))), .mk none (.slot 17) (.mov (.mv (.env 88)))]) (.seq (.reg [.mk none (.env 89) (.mov (.mv (.slot 17))), .mk none (.env 90) (.mov (.mv (.env 89))), .mk (some ((.env 90), true)) (.env 91) (.mov (.mv (.slot 15))), .mk (some ((.env 90), true)) (.env 92) (.mov (.lenv (.env 91))), .mk (some ((.env 90), true)) (.env 93) (.mov (.bin .eql .no (.env 92) (.const (.int .i64 1)))), .mk none (.env 94) (.mov (.pick (.env 90) (.env 93) (.const (.bool false)))), .mk none (.env 95) (.mov (.mv (.env 94))), .mk (some ((.env 95), true)) (.env 96) (.mov (.mv (.slot 16))), .mk (some ((.env 95), true)) (.env 97) (.mov (.mv (.slot 10))), .mk (some ((.env 95), true)) (.env 98) (.call 27 [(.env 97), (.const (.int .i64 200))]), .mk (some ((.env 95), true)) (.env 99) (.mov (.lenv (.env 98))), .mk (some ((.env 95), true)) (.env 100) (.mov (.bin .eql .no (.env 96) (.env 99))), .mk none (.env 101) (.mov (.pick (.env 95) (.env 100) (.const (.bool false)))), .mk none (.slot 18) (.mov (.mv (.env 101)))]) (.seq (.reg [.mk none (.env 102) (.mov (.bld [.snil, (.int .i64 0), (.int .i64 0)] [])), .mk none (.slot 19) (.eff (.alloc [.snil, (.int .i64 0), (.int .i64 0)])), .mk none .none (.eff (.store 3 (.slot 19) (.env 102)))]) (.seq (.seq (.reg [.mk none (.slot 29) (.mov (.mv (.slot 18)))]) (.cond (.slot 29) (.seq (.reg [.mk none (.env 105) (.mov (.mv (.slot 15))), .mk none (.env 106) (.mov (.iaddr 1 (.env 105) (.const (.int .i64 0)))), .mk none (.env 107) (.mov (.ld1 (.env 106))), .mk none (.env 108) (.call 46 [(.env 107)]), .mk none (.env 104) (.mov (.mv (.env 108))), .mk none (.env 109) (.mov (.ext 0 (.env 104))), .mk none (.env 110) (.mov (.ext 1 (.env 104))), .mk none (.env 111) (.mov (.ext 2 (.env 104))), .mk none (.env 112) (.mov (.ext 3 (.env 104))), .mk none (.slot 20) (.mov (.mv (.env 109))), .mk none (.slot 21) (.mov (.mv (.env 110))), .mk none (.slot 22) (.mov (.mv (.env 111))), .mk none (.slot 23) (.mov (.mv (.env 112)))]) (.seq (.reg [.mk none (.env 113) (.mov (.mv (.slot 23))), .mk none (.slot 18) (.mov (.mv (.env 113)))]) (.reg [.mk none (.env 114) (.mov (.mv (.slot 20))), .mk none (.env 115) (.mov (.mv (.slot 21))), .mk none (.env 116) (.mov (.mv (.slot 22))), .mk none (.env 117) (.mov (.bld [.snil, (.int .i64 0), (.int .i64 0)] [(0, 1, (.env 114)), (1, 1, (.env 115)), (2, 1, (.env 116))])), .mk none .none (.eff (.store 3 (.slot 19) (.env 117)))]))) .skip)) (.seq (.reg [.mk none (.env 118) (.mov (.mv (.slot 13))), .mk none (.env 119) (.mov (.mv (.slot 18))), .mk none (.env 120) (.mov (.bin .neq .bool (.env 118) (.env 119))), .mk none (.env 121) (.mov (.mv (.env 120))), .mk (some ((.env 121), false)) (.env 122) (.mov (.mv (.slot 14))), .mk (some ((.env 121), false)) (.env 123) (.mov (.bin .eql .no (.env 122) (.const (.int .i64 0)))), .mk (some ((.env 121), false)) (.env 124) (.mov (.mv (.slot 18))), .mk (some ((.env 121), false)) (.env 125) (.mov (.bin .neq .bool (.env 123) (.env 124))), .mk none (.env 126) (.mov (.pick (.env 121) (.const (.bool true)) (.env 125))), .mk none (.env 127) (.mov (.mv (.env 126))), .mk (some ((.env 127), false)) (.env 128) (.mov (.mv (.slot 18))), .mk (some ((.env 127), false)) (.env 129) (.mov (.notb (.env 128))), .mk (some ((.env 127), false)) (.env 130) (.mov (.mv (.env 129))), .mk (some ((.env 130), true)) (.env 131) (.mov (.mv (.slot 14))), .mk (some ((.env 130), true)) (.env 132) (.mov (.bin .neq .no (.env 131) (.const (.int .i64 14)))), .mk (some ((.env 127), false)) (.env 133) (.mov (.pick (.env 130) (.env 132) (.const (.bool false)))), .mk none (.env 134) (.mov (.pick (.env 127) (.const (.bool true)) (.env 133))), .mk none (.env 135) (.mov (.mv (.env 134))), .mk (some ((.env 135), false)) (.env 136) (.mov (.ldn 3 (.slot 12))), .mk (some ((.env 135), false)) (.env 137) (.mov (.ldn 3 (.slot 19))), .mk (some ((.env 135), false)) (.env 138) (.call 47 [(.env 136), (.env 137)]), .mk (some ((.env 135), false)) (.env 139) (.mov (.notb (.env 138))), .mk none (.slot 30) (.mov (.pick (.env 135) (.const (.bool true)) (.env 139)))]) (.cond (.slot 30) (.seq (.reg [.mk none (.slot 6) (.mov (.mv (.const (.bool false))))]) .ret) .skip))))))))))) (.reg [.mk none (.env 141) (.mov (.bin .add .no (.slot 26) (.const (.int .i64 1)))), .mk none (.slot 26) (.mov (.mv (.env 141)))]))))))) (.seq (.reg [.mk none (.env 142) (.call 41 []), .mk none (.slot 6) (.mov (.mv (.env 142)))]) .ret))))))), [.slot (.slot 6)]⟩
section
variable {e : En} {t : List AV} {X : Type} {h : Hp X}
theorem allOne_mk : ∀ {l : List AV}, (∀ x ∈ l, x.one = true) → allOne l = true
  | [], _ => rfl
  | a :: l, hx => by
    have h1 := hx a (List.mem_cons_self ..)
    have h2 := allOne_mk (l := l) fun x h => hx x (List.mem_cons_of_mem _ h)
    unfold allOne
    cases a <;> first | (cases h1; done) | exact h2
theorem ef_bs4 {x y z w : Od} {a b c d zero : AV} (hx : x.ev e t = a) (hy : y.ev e t = b) (hz : z.ev e t = c) (hw : w.ev e t = d) (ha : cellsOf a = some [a] ∧ a.one = true) (hb : cellsOf b = some [b] ∧ b.one = true) (hc : cellsOf c = some [c] ∧ c.one = true) (hd : cellsOf d = some [d] ∧ d.one = true) :
    (Ef.bslice 1 4 [zero] [(0, 1, x), (1, 1, y), (2, 1, z), (3, 1, w)]).ev e t h = some (.slice 1 h.n 0 4 (some 4), h.push (.rw [a, b, c, d])) := by
  have ho : allOne [a, b, c, d] = true := allOne_mk fun x hx => by
    simp at hx
    rcases hx with rfl | rfl | rfl | rfl
    · exact ha.2
    · exact hb.2
    · exact hc.2
    · exact hd.2
  have hf : fillA (rep [zero] 4) [(0, 1, a), (1, 1, b), (2, 1, c), (3, 1, d)] = some [a, b, c, d] := by
    simp only [fillA, rep, ha.1, hb.1, hc.1, hd.1]
    rfl
  simp only [Ef.ev, List.map, hx, hy, hz, hw]
  rw [hf]
  show (bif allOne [a, b, c, d] && Nat.beq 4 (4 * 1) && Nat.ble 4 maxLen then some (AV.slice 1 h.n 0 4 (some 4), h.push (.rw [a, b, c, d])) else none) = _
  rw [ho]
  rfl
end
theorem wb_heap {X : Type} {D : Dp X} {b : BC} {t : List AV} {h h' : Hp X} {Q : R X → Prop} (he : h = h') (H : WB D b t h' Q) : WB D b t h Q := he ▸ H
def ByQ (h : Hp MD) (c : AV) : Prop := ∃ B : List UInt8, RS h 1 c B.length (B.map ub)
section
variable {E : Nat → Option (Ent MD)}
set_option maxHeartbeats 8000000 in
theorem reads_ok (hE : ∀ f e, E f = some e → e.plain) (T : MfV E) (hlaw : E 9 = some (.bc b_ManifestReads)) {h : Hp MD} {v bv : AV} {l : List Int} {b : List UInt8} {wal more at' turn : Int}
    (hv : RS h 1 v l.length (l.map iv)) (hl : ∀ x ∈ l, I64 x) (hlen : l.length ≤ maxLen) (h1 : I64 wal) (h2 : I64 more) (hb : RS h 1 bv b.length (b.map ub)) (hbl : b.length ≤ maxLen) (hbl2 : b.length ≤ 140737488351232) (h3 : I64 at') :
    WF (lim E) 9 [v, .int .i64 wal, .int .i64 more, bv, .int .i64 at', .int .u8 turn] h fun r _ => r = .bool true := by
  refine wf_bc hE hlaw rfl ?_
  simp only [b_ManifestReads, List.map, getS]
  have hmx : (maxLen : Nat) = 9223372036854775807 := rfl
  repeat first|(refine BG ?_;first|(refine BH ?_;first|(refine BI ?_;refine BM ?_)|(refine BJ ?_;first|refine BN ?_|refine BO ?_)|refine BP ?_)|(refine BK ?_;first|refine BS rfl rfl ?_|refine BT rfl rfl ?_|refine BU rfl ?_)|(refine BL ?_;first|refine BQ ?_)|(refine BR ?_;try simp only [setS]))|refine AA ?_|refine AC ?_|refine AD ?_|refine AE ?_|refine AF rfl rfl ?_|refine AG rfl rfl ?_|refine AH ?_|refine AI ?_|refine AJ ?_|refine AK ?_|refine AL ?_|refine AM ?_|refine AN ?_|refine AO ?_|refine AP ?_|refine AQ rfl ?_|refine AR ?_|refine AS ?_|refine AT rfl ?_|refine AU rfl ?_
  refine wr_call_e rfl ((made_ok hE T.made T.within hv hl hlen h1 h2).mono fun r g1 ⟨tv, e2, k2, o2, l2⟩ => ?_)
  subst e2
  have hM := madeF_may l wal more
  generalize madeF l wal more = q at *
  obtain ⟨ts, w, nx⟩ := q
  simp only at o2 hM ⊢
  have kp : Keep NoB g1 (g1.push (.rw [.snil, .int .i64 0, .int .i64 0])) := Keep.push _ _ _
  have bz : Bx (g1.push (.rw [.snil, .int .i64 0, .int .i64 0])) g1.n _ := bx_push
  have kq : Keep (OneB g1.n) (g1.push (.rw [.snil, .int .i64 0, .int .i64 0])) ((g1.push (.rw [.snil, .int .i64 0, .int .i64 0])).put g1.n (.rw [tv, .int .i64 w, .int .i64 nx])) := Keep.put _ _ _ rfl
  have bz1 : Bx ((g1.push (.rw [.snil, .int .i64 0, .int .i64 0])).put g1.n (.rw [tv, .int .i64 w, .int .i64 nx])) g1.n [tv, .int .i64 w, .int .i64 nx] := bz.put
  have o3 := (o2.up kp).keep kq (fun j q1 q2 => by have := o2.lt j q1; have q2 : j = g1.n := q2; omega)
  have hk2 := k2.n
  have K3 := (k2.and kp).own kq (fun k q => by have q : k = g1.n := q; omega)
  repeat first|(refine BG ?_;first|(refine BH ?_;first|(refine BI ?_;refine BM ?_)|(refine BJ ?_;first|refine BN ?_|refine BO ?_)|refine BV (v_bx bz1 rfl rfl) ?_|refine BP ?_)|(refine BK ?_;first|refine BS rfl rfl ?_|refine BT rfl rfl ?_|refine BU rfl ?_)|(refine BL ?_;first|refine BW (ef_bxn bz rfl rfl (all3 o2.one.2) rfl (Nat.le_refl _)) ?_|refine BQ ?_)|(refine BR ?_;try simp only [setS]))|refine AA ?_|refine AC ?_|refine AD ?_|refine AE ?_|refine AF rfl rfl ?_|refine AG rfl rfl ?_|refine AH ?_|refine AI ?_|refine AJ ?_|refine AK ?_|refine AL ?_|refine AM ?_|refine AN ?_|refine AO ?_|refine AP ?_|refine AQ rfl ?_|refine AR ?_|refine AS ?_|refine AT rfl ?_|refine AU rfl ?_
  refine wr_call_e rfl ((renc_ok hE T.toMfT o3.rs hM).mono fun eo g4 ⟨⟨k4, l4⟩, o4⟩ => ?_)
  have K4 := K3.and k4
  have hel := encM_le hM
  repeat first|(refine BG ?_;first|(refine BH ?_;first|(refine BI ?_;refine BM ?_)|(refine BJ ?_;first|refine BN ?_|refine BO ?_)|refine BP ?_)|(refine BK ?_;first|refine BS rfl rfl ?_|refine BT rfl rfl ?_|refine BU rfl ?_)|(refine BL ?_;first|refine BQ ?_)|(refine BR ?_;try simp only [setS]))|refine AA ?_|refine AC ?_|refine AD ?_|refine AE ?_|refine AF rfl rfl ?_|refine AG rfl rfl ?_|refine AH ?_|refine AI ?_|refine AJ ?_|refine AK ?_|refine AL ?_|refine AM ?_|refine AN ?_|refine AO ?_|refine AP ?_|refine AQ rfl ?_|refine AR ?_|refine AS ?_|refine AT rfl ?_|refine AU rfl ?_
  refine wr_call_e rfl ((r4put_ok hE T.r4put T.rput (pre := []) (v := .snil) ⟨rfl, rfl⟩ o4.rs (by simp) (by omega)).mono fun xo g5 ⟨⟨k5, l5⟩, o5⟩ => ?_)
  rw [List.nil_append] at o5
  have K5 := K4.and k5
  have hrl := recB_len (encM ts w nx)
  generalize recB (encM ts w nx) = R at *
  repeat first|(refine BG ?_;first|(refine BH ?_;first|(refine BI ?_;refine BM ?_)|(refine BJ ?_;first|refine BN ?_|refine BO ?_)|refine BP ?_)|(refine BK ?_;first|refine BS rfl rfl ?_|refine BT rfl rfl ?_|refine BU rfl ?_)|(refine BL ?_;first|refine BW ef_bs0 ?_|refine BQ ?_)|(refine BR ?_;try simp only [setS]))|refine AA ?_|refine AC ?_|refine AD ?_|refine AE ?_|refine AF rfl rfl ?_|refine AG rfl rfl ?_|refine AH ?_|refine AI ?_|refine AJ ?_|refine AK ?_|refine AL ?_|refine AM ?_|refine AN ?_|refine AO ?_|refine AP ?_|refine AQ rfl ?_|refine AR ?_|refine AS ?_|refine AT rfl ?_|refine AU rfl ?_
  have kr : Keep NoB g5 (g5.push (.rw [])) := Keep.push _ _ _
  refine wr_app_e (n := 0) (cells := []) rfl rfl (os_push0 Nat.zero_lt_one) Nat.zero_lt_one (o5.rs.up kr) (by omega) (by omega) fun yo g6 a1 a2 a3 => ?_
  rw [Nat.zero_add, List.nil_append] at a1
  have k6 : Keep NoB g5 g6 := kr.own a2 (fun j q => by have q : j = g5.n := q; omega)
  have K6 := K5.and k6
  have o6 := o5.up k6
  have y6 : ∀ j, blk yo j → g5.n ≤ j := fun j q => by
    rcases a3 j q with q | q
    · have q : j = g5.n := q; omega
    · simp only [push_n] at q; omega
  repeat first|(refine BG ?_;first|(refine BH ?_;first|(refine BI ?_;refine BM ?_)|(refine BJ ?_;first|refine BN ?_|refine BO ?_)|refine BV (a1.rs.lenv (by rfl)) ?_|refine BP ?_)|(refine BK ?_;first|refine BS rfl rfl ?_|refine BT rfl rfl ?_|refine BU rfl ?_)|(refine BL ?_;first|refine BQ ?_)|(refine BR ?_;try simp only [setS]))|refine AA ?_|refine AC ?_|refine AD ?_|refine AE ?_|refine AF rfl rfl ?_|refine AG rfl rfl ?_|refine AH ?_|refine AI ?_|refine AJ ?_|refine AK ?_|refine AL ?_|refine AM ?_|refine AN ?_|refine AO ?_|refine AP ?_|refine AQ rfl ?_|refine AR ?_|refine AS ?_|refine AT rfl ?_|refine AU rfl ?_
  refine wr_call_e rfl ((within_ok hE T.within h3 (lo := 0) (hi := (R.length : Int) - 1) (by omega) (by omega) (by omega)).mono fun r g7 ⟨e7, e8⟩ => ?_)
  subst e7 e8
  have hwi := withinF_in (n := at') (lo := 0) (hi := (R.length : Int) - 1) (by omega)
  generalize withinF at' 0 ((R.length : Int) - 1) = j at *
  obtain ⟨k, rfl⟩ := Int.eq_ofNat_of_zero_le hwi.1
  have hub := ub_at (l := R) (i := (k : Int)) (by omega) (by omega)
  rw [Int.toNat_natCast] at hub
  obtain ⟨z, hz⟩ := v_xor8 (X := MD) (e := [(54, .int .u8 turn), (53, .int .u8 ((R.getD k 0).toNat : Int))]) (t := []) (q := .no) (x := .env 53) (y := .env 54) rfl rfl
  obtain ⟨g', oo', lc', ca', cb', cl', ce', o7, hbg⟩ := a1.set (k := k) (c := ub z) (by omega)
  rw [hub] at ce'
  rw [bset] at o7
  have hbl' : (R.set k z).length = R.length := List.length_set
  rw [← hbl'] at o7
  have hgl := y6 g' hbg
  repeat first|(refine BG ?_;first|(refine BH ?_;first|(refine BI ?_;refine BM ?_)|(refine BJ ?_;first|refine BN ?_|refine BO ?_)|refine BV (a1.rs.lenv (by rfl)) ?_|refine BV (ca' rfl rfl) ?_|refine BV (v_bx cb' rfl ce') ?_|refine BV (hz (hh := g7)) ?_|refine BP ?_)|(refine BK ?_;first|refine BS rfl rfl ?_|refine BT rfl rfl ?_|refine BU rfl ?_)|(refine BL ?_;first|refine BW (ef_bx cb' rfl rfl ⟨rfl, rfl⟩ cl') ?_|refine BW ef_bs0 ?_|refine BQ ?_)|(refine BR ?_;try simp only [setS]))|refine AA ?_|refine AC ?_|refine AD ?_|refine AE ?_|refine AF rfl rfl ?_|refine AG rfl rfl ?_|refine AH ?_|refine AI ?_|refine AJ ?_|refine AK ?_|refine AL ?_|refine AM ?_|refine AN ?_|refine AO ?_|refine AP ?_|refine AQ rfl ?_|refine AR ?_|refine AS ?_|refine AT rfl ?_|refine AU rfl ?_
  obtain ⟨h8, hh8⟩ : ∃ h8 : Hp MD, h8 = g7.put g' (.rw (spl oo' [ub z] lc')) := ⟨_, rfl⟩
  have k8 : Keep (OneB g') g7 h8 := by rw [hh8]; exact Keep.put _ _ _ rfl
  have n8 : h8.n = g7.n := by rw [hh8]; rfl
  have K5n := K5.n
  have K8 := K6.own k8 (fun q e => by have e : q = g' := e; omega)
  have o8 := o6.keep k8 (fun q e1 e2 => by have := o5.lt q e1; have e2 : q = g' := e2; omega)
  rw [← hh8] at o7
  refine wr_heap (h' := h8.push (.rw [])) (by rw [hh8]; rfl) ?_
  have kr : Keep NoB h8 (h8.push (.rw [])) := Keep.push _ _ _
  refine wr_app_e (v := .slice 1 h8.n 0 0 (some 0)) (n := 0) (cells := []) (by rw [n8]; rfl) rfl (os_push0 Nat.zero_lt_one) Nat.zero_lt_one (o8.rs.up kr) (by omega) (by omega) fun wo h9 c1 c2 c3 => ?_
  rw [Nat.zero_add, List.nil_append] at c1
  have k9 : Keep NoB h8 h9 := kr.own c2 (fun j q => by have q : j = h8.n := q; omega)
  have y9 : ∀ j, blk wo j → h8.n ≤ j := fun j q => by
    rcases c3 j q with q | q
    · have q : j = h8.n := q; omega
    · simp only [push_n] at q; omega
  repeat first|(refine BG ?_;first|(refine BH ?_;first|(refine BI ?_;refine BM ?_)|(refine BJ ?_;first|refine BN ?_|refine BO ?_)|refine BP ?_)|(refine BK ?_;first|refine BS rfl rfl ?_|refine BT rfl rfl ?_|refine BU rfl ?_)|(refine BL ?_;first|refine BQ ?_)|(refine BR ?_;try simp only [setS]))|refine AA ?_|refine AC ?_|refine AD ?_|refine AE ?_|refine AF rfl rfl ?_|refine AG rfl rfl ?_|refine AH ?_|refine AI ?_|refine AJ ?_|refine AK ?_|refine AL ?_|refine AM ?_|refine AN ?_|refine AO ?_|refine AP ?_|refine AQ rfl ?_|refine AR ?_|refine AS ?_|refine AT rfl ?_|refine AU rfl ?_
  refine wr_app_e rfl rfl c1 Nat.zero_lt_one (hb.up (K8.and k9)) (by omega) (by omega) fun zo h10 d1 d2 d3 => ?_
  have k10 := k9.own d2 (fun j q => by have := y9 j q; omega)
  have K10 := K8.and k10
  have o10 := o8.up k10
  have p10 := o7.up k10
  rw [← List.map_append] at d1
  have hzl : (R ++ b).length = R.length + b.length := List.length_append
  rw [← hzl] at d1
  repeat first|(refine BG ?_;first|(refine BH ?_;first|(refine BI ?_;refine BM ?_)|(refine BJ ?_;first|refine BN ?_|refine BO ?_)|refine BP ?_)|(refine BK ?_;first|refine BS rfl rfl ?_|refine BT rfl rfl ?_|refine BU rfl ?_)|(refine BL ?_;first|refine BW (ef_bs4 rfl rfl rfl rfl o10.one p10.one hb.one d1.one) ?_|refine BQ ?_)|(refine BR ?_;try simp only [setS]))|refine AA ?_|refine AC ?_|refine AD ?_|refine AE ?_|refine AF rfl rfl ?_|refine AG rfl rfl ?_|refine AH ?_|refine AI ?_|refine AJ ?_|refine AK ?_|refine AL ?_|refine AM ?_|refine AN ?_|refine AO ?_|refine AP ?_|refine AQ rfl ?_|refine AR ?_|refine AS ?_|refine AT rfl ?_|refine AU rfl ?_
  obtain ⟨hL, hhL⟩ : ∃ hL : Hp MD, hL = h10.push (.rw [xo, yo, bv, zo]) := ⟨_, rfl⟩
  have kL : Keep NoB h10 hL := by rw [hhL]; exact Keep.push _ _ _
  have rL : RS hL 1 (.slice 1 h10.n 0 4 (some 4)) 4 [xo, yo, bv, zo] := by rw [hhL]; exact rs_push rfl
  refine wb_heap hhL.symm ?_
  have hz4 : ∀ i, i < 4 → ∃ c, [xo, yo, bv, zo][i]? = some c ∧ ByQ hL c := fun i hi => by
    obtain rfl | rfl | rfl | rfl : i = 0 ∨ i = 1 ∨ i = 2 ∨ i = 3 := by omega
    · exact ⟨xo, rfl, R, o10.rs.up kL⟩
    · exact ⟨yo, rfl, _, p10.rs.up kL⟩
    · exact ⟨bv, rfl, b, hb.up (K10.and kL)⟩
    · exact ⟨zo, rfl, _, d1.rs.up kL⟩
  generalize [xo, yo, bv, zo] = cs at *
  refine wb_loop (fun n t h' => ∃ (i : Nat) (u10 u11 u12 u13 u14 u15 u16 u17 u18 u19 u20 u21 u22 u23 u27 u28 u29 u30 : AV), i ≤ 4 ∧ n = 4 - i ∧ Keep NoB hL h' ∧
    t = [v, .int .i64 wal, .int .i64 more, bv, .int .i64 at', .int .u8 turn, .bool false, .ptr g1.n 0, xo, yo, u10, u11, u12, u13, u14, u15, u16, u17, u18, u19, u20, u21, u22, u23, .slice 1 h10.n 0 4 (some 4), .int .i64 4, .int .i64 i, u27, u28, u29, u30]) ?_ 4 _ _ ⟨0, _, _, _, _, _, _, _, _, _, _, _, _, _, _, _, _, _, _, by omega, by omega, Keep.refl _ _, rfl⟩
  rintro n t h' ⟨i, u10, u11, u12, u13, u14, u15, u16, u17, u18, u19, u20, u21, u22, u23, u27, u28, u29, u30, hi, hn, K, rfl⟩
  by_cases hlt : i < 4
  · obtain ⟨c, hc, B, rB⟩ := hz4 i hlt
    obtain ⟨gg, oo, ca, cl⟩ := rL.at2 (i := i) hlt
    rw [hc] at cl
    have cl := @cl NoB _ K (fun _ _ q => q)
    have rB := rB.up K
    repeat first|(refine BG ?_;first|(refine BH ?_;first|(refine BI ?_;refine BM ?_)|(refine BJ ?_;first|refine BN ?_|refine BO ?_)|refine BV (ca rfl rfl) ?_|refine BV (cl rfl) ?_|refine BP ?_)|(refine BK ?_;first|refine BS rfl rfl ?_|refine BT rfl rfl ?_|refine BU rfl ?_)|(refine BL ?_;first|refine BQ ?_)|(refine BR ?_;try simp only [setS]))|refine AA ?_|refine AC ?_|refine AD ?_|refine AE ?_|refine AF rfl rfl ?_|refine AG rfl rfl ?_|refine AH ?_|refine AI ?_|refine AJ ?_|refine AK ?_|refine AL ?_|refine AM ?_|refine AN ?_|refine AO ?_|refine AP ?_|refine AQ rfl ?_|refine AR ?_|refine AS ?_|refine AT rfl ?_|refine AU rfl ?_
    refine wr_call_e rfl ((cut_ok hE T.cut rB (n := 200) (by omega)).mono fun cv g11 ⟨e11, r11, _, _⟩ => ?_)
    subst e11
    have hCl : (B.take 200).length ≤ 200 := by rw [List.length_take]; omega
    repeat first|(refine BG ?_;first|(refine BH ?_;first|(refine BI ?_;refine BM ?_)|(refine BJ ?_;first|refine BN ?_|refine BO ?_)|refine BP ?_)|(refine BK ?_;first|refine BS rfl rfl ?_|refine BT rfl rfl ?_|refine BU rfl ?_)|(refine BL ?_;first|refine BQ ?_)|(refine BR ?_;try simp only [setS]))|refine AA ?_|refine AC ?_|refine AD ?_|refine AE ?_|refine AF rfl rfl ?_|refine AG rfl rfl ?_|refine AH ?_|refine AI ?_|refine AJ ?_|refine AK ?_|refine AL ?_|refine AM ?_|refine AN ?_|refine AO ?_|refine AP ?_|refine AQ rfl ?_|refine AR ?_|refine AS ?_|refine AT rfl ?_|refine AU rfl ?_
    refine wr_call_e rfl ((on_ok hE T (s := nList) (by decide) r11 (by omega)).mono fun r h12 ⟨e12, d12, k12⟩ => ?_)
    subst e12
    obtain ⟨_, _, _, _, hgt, hfl, _⟩ := onF_calm (s := nList) (b := B.take 200) (by decide) (by omega)
    generalize onF nList (B.take 200) = x at *
    repeat first|(refine BG ?_;first|(refine BH ?_;first|(refine BI ?_;refine BM ?_)|(refine BJ ?_;first|refine BN ?_|refine BO ?_)|refine BV (v_pnil rfl) ?_|refine BP ?_)|(refine BK ?_;first|refine BS rfl rfl ?_|refine BT rfl rfl ?_|refine BU rfl ?_)|(refine BL ?_;first|refine BQ ?_)|(refine BR ?_;try simp only [setS]))|refine AA ?_|refine AC ?_|refine AD ?_|refine AE ?_|refine AF rfl rfl ?_|refine AG rfl rfl ?_|refine AH ?_|refine AI ?_|refine AJ ?_|refine AK ?_|refine AL ?_|refine AM ?_|refine AN ?_|refine AO ?_|refine AP ?_|refine AQ rfl ?_|refine AR ?_|refine AS ?_|refine AT rfl ?_|refine AU rfl ?_
    refine wr_call_e rfl ((read_ok hE T.toMfIO d12 (by omega) (fun m hm => by rw [hgt] at hm; cases hm; simp only; omega)).mono fun r h13 ⟨k13, p13⟩ => ?_)
    rw [hgt] at p13
    simp only [Option.map_some] at p13
    unfold readF at p13
    simp only at p13
    have hrl := allG_le ((B.take 200).length + 1) (B.take 200)
    obtain ⟨A, hA⟩ : ∃ A, allG ((B.take 200).length + 1) (B.take 200) = A := ⟨_, rfl⟩
    rw [hA] at p13 hrl
    have K13 := (K.and k12).and k13
    have n13 := K13.n
    have hAo : ∀ {hh : Hp MD} {cv : AV}, RS hh 1 cv (B.take 200).length ((B.take 200).map ub) → WF (lim E) 45 [cv] hh fun x h' => ∃ o, x = .tup [o, .int .i64 A.2.1, .bool A.2.2] ∧ Keep NoB hh h' ∧ Recs h' o A.1 hh.n := fun {hh cv} hr => by
      have := r4all_ok hE T.r4all T.rget hr (by omega)
      rw [hA] at this
      exact this
    obtain ⟨recs, en, fine⟩ := A
    simp only at p13 hrl hAo
    clear hA
    by_cases hf : fine = false ∨ recs.length ≠ 1 ∨ en ≠ (B.take 200).length
    · rw [if_pos hf] at p13
      simp only at p13
      subst p13
      have sb : Bx (h13.push (.rw [.snil, .int .i64 0, .int .i64 0])) h13.n _ := bx_push
      have sp : Keep NoB h13 (h13.push (.rw [.snil, .int .i64 0, .int .i64 0])) := Keep.push _ _ _
      have sq : Keep (OneB h13.n) (h13.push (.rw [.snil, .int .i64 0, .int .i64 0])) ((h13.push (.rw [.snil, .int .i64 0, .int .i64 0])).put h13.n (.rw [.snil, .int .i64 0, .int .i64 0])) := Keep.put _ _ _ rfl
      have sc : Bx ((h13.push (.rw [.snil, .int .i64 0, .int .i64 0])).put h13.n (.rw [.snil, .int .i64 0, .int .i64 0])) h13.n [.snil, .int .i64 0, .int .i64 0] := sb.put
      have K14 := (K13.and sp).own sq (fun k q => by have q : k = h13.n := q; omega)
      repeat first|(refine BG ?_;first|(refine BH ?_;first|(refine BI ?_;refine BM ?_)|(refine BJ ?_;first|refine BN ?_|refine BO ?_)|refine BP ?_)|(refine BK ?_;first|refine BS rfl rfl ?_|refine BT rfl rfl ?_|refine BU rfl ?_)|(refine BL ?_;first|refine BW (ef_bxn sb rfl rfl rfl rfl (Nat.le_refl _)) ?_|refine BQ ?_)|(refine BR ?_;try simp only [setS]))|refine AA ?_|refine AC ?_|refine AD ?_|refine AE ?_|refine AF rfl rfl ?_|refine AG rfl rfl ?_|refine AH ?_|refine AI ?_|refine AJ ?_|refine AK ?_|refine AL ?_|refine AM ?_|refine AN ?_|refine AO ?_|refine AP ?_|refine AQ rfl ?_|refine AR ?_|refine AS ?_|refine AT rfl ?_|refine AU rfl ?_
      obtain ⟨h14, hh14⟩ : ∃ h14 : Hp MD, h14 = (h13.push (.rw [.snil, .int .i64 0, .int .i64 0])).put h13.n (.rw [.snil, .int .i64 0, .int .i64 0]) := ⟨_, rfl⟩
      refine wr_heap (h' := h14) (by rw [hh14]; rfl) ?_
      rw [← hh14] at sc K14
      have rB14 := rB.up (((k12.and k13).and sp).own sq (fun k q => by have q : k = h13.n := q; have := k12.n; have := k13.n; omega))
      rw [← hh14] at rB14
      have b14 := sc.lt
      clear sb sp sq hh14
      refine wr_call_e rfl ((cut_ok hE T.cut rB14 (n := 200) (by omega)).mono fun cv2 g15 ⟨e15, r15, _, _⟩ => ?_)
      subst e15
      repeat first|(refine BG ?_;first|(refine BH ?_;first|(refine BI ?_;refine BM ?_)|(refine BJ ?_;first|refine BN ?_|refine BO ?_)|refine BP ?_)|(refine BK ?_;first|refine BS rfl rfl ?_|refine BT rfl rfl ?_|refine BU rfl ?_)|(refine BL ?_;first|refine BQ ?_)|(refine BR ?_;try simp only [setS]))|refine AA ?_|refine AC ?_|refine AD ?_|refine AE ?_|refine AF rfl rfl ?_|refine AG rfl rfl ?_|refine AH ?_|refine AI ?_|refine AJ ?_|refine AK ?_|refine AL ?_|refine AM ?_|refine AN ?_|refine AO ?_|refine AP ?_|refine AQ rfl ?_|refine AR ?_|refine AS ?_|refine AT rfl ?_|refine AU rfl ?_
      refine wr_call_e rfl ((hAo r15).mono fun r h16 ⟨ro, e16, k16, ⟨cells, ro1, ro2, ro3⟩⟩ => ?_)
      subst e16
      have sc := sc.up k16
      have K16 := K14.and k16
      have rB16 := rB14.up k16
      have wb : Bx (h16.push (.rw [.snil, .int .i64 0, .int .i64 0])) h16.n _ := bx_push
      have wp : Keep NoB h16 (h16.push (.rw [.snil, .int .i64 0, .int .i64 0])) := Keep.push _ _ _
      have wq : Keep (OneB h16.n) (h16.push (.rw [.snil, .int .i64 0, .int .i64 0])) ((h16.push (.rw [.snil, .int .i64 0, .int .i64 0])).put h16.n (.rw [.snil, .int .i64 0, .int .i64 0])) := Keep.put _ _ _ rfl
      have wc : Bx ((h16.push (.rw [.snil, .int .i64 0, .int .i64 0])).put h16.n (.rw [.snil, .int .i64 0, .int .i64 0])) h16.n [.snil, .int .i64 0, .int .i64 0] := wb.put
      have b16 := sc.lt
      have K17 := (K16.and wp).own wq (fun k q => by have q : k = h16.n := q; have := K16.n; omega)
      have sc := (sc.up wp).keep wq (fun q => by have q : h13.n = h16.n := q; omega)
      cases fine with
      | false =>
        repeat first|(refine BG ?_;first|(refine BH ?_;first|(refine BI ?_;refine BM ?_)|(refine BJ ?_;first|refine BN ?_|refine BO ?_)|refine BV (v_bne rfl rfl) ?_|refine BV (v_bxn sc rfl (Nat.le_refl _)) ?_|refine BV (v_bxn wc rfl (Nat.le_refl _)) ?_|refine BV (ro1.rs.lenv (by rfl)) ?_|refine BP ?_)|(refine BK ?_;first|refine BS rfl rfl ?_|refine BT rfl rfl ?_|refine BU rfl ?_)|(refine BL ?_;first|refine BW (ef_bxn wb rfl rfl rfl rfl (Nat.le_refl _)) ?_|refine BQ ?_)|(refine BR ?_;try simp only [setS]))|refine AA ?_|refine AC ?_|refine AD ?_|refine AE ?_|refine AF rfl rfl ?_|refine AG rfl rfl ?_|refine AH ?_|refine AI ?_|refine AJ ?_|refine AK ?_|refine AL ?_|refine AM ?_|refine AN ?_|refine AO ?_|refine AP ?_|refine AQ rfl ?_|refine AR ?_|refine AS ?_|refine AT rfl ?_|refine AU rfl ?_
        refine wr_call_e rfl ((same_ok hE T.same T.sameI (a := []) (b := []) (v := .snil) (w := .snil) ⟨rfl, rfl⟩ ⟨rfl, rfl⟩ (by simp) (by simp)).mono fun r h18 ⟨k18, e18⟩ => ?_)
        subst e18
        repeat first|(refine BG ?_;first|(refine BH ?_;first|(refine BI ?_;refine BM ?_)|(refine BJ ?_;first|refine BN ?_|refine BO ?_)|refine BP ?_)|(refine BK ?_;first|refine BS rfl rfl ?_|refine BT rfl rfl ?_|refine BU rfl ?_)|(refine BL ?_;first|refine BQ ?_)|(refine BR ?_;try simp only [setS]))|refine AA ?_|refine AC ?_|refine AD ?_|refine AE ?_|refine AF rfl rfl ?_|refine AG rfl rfl ?_|refine AH ?_|refine AI ?_|refine AJ ?_|refine AK ?_|refine AL ?_|refine AM ?_|refine AN ?_|refine AO ?_|refine AP ?_|refine AQ rfl ?_|refine AR ?_|refine AS ?_|refine AT rfl ?_|refine AU rfl ?_
        rw [show ((i : Int) + 1) = ((i + 1 : Nat) : Int) by omega]
        exact round_norm (n - 1) (by omega) ⟨i + 1, _, _, _, _, _, _, _, _, _, _, _, _, _, _, _, _, _, _, by omega, by omega, K17.and k18, rfl⟩
      | true =>
        by_cases hl1 : recs.length = 1
        · have hen : ¬ (en : Int) = ((B.take 200).length : Int) := by
            rcases hf with q | q | q
            · cases q
            · exact absurd hl1 q
            · omega
          repeat first|(refine BG ?_;first|(refine BH ?_;first|(refine BI ?_;refine BM ?_)|(refine BJ ?_;first|refine BN ?_|refine BO ?_)|refine BV (v_bne rfl rfl) ?_|refine BV (v_bxn sc rfl (Nat.le_refl _)) ?_|refine BV (v_bxn wc rfl (Nat.le_refl _)) ?_|refine BV (ro1.rs.lenv (by rfl)) ?_|refine BP ?_)|(refine BK ?_;first|refine BS rfl rfl ?_|refine BT rfl rfl ?_|refine BU rfl ?_)|(refine BL ?_;first|refine BW (ef_bxn wb rfl rfl rfl rfl (Nat.le_refl _)) ?_|refine BQ ?_)|(refine BR ?_;try simp only [setS]))|refine AA ?_|refine AC ?_|refine AD ?_|refine AE ?_|refine AF rfl rfl ?_|refine AG rfl rfl ?_|refine AH ?_|refine AI ?_|refine AJ ?_|refine AK ?_|refine AL ?_|refine AM ?_|refine AN ?_|refine AO ?_|refine AP ?_|refine AQ rfl ?_|refine AR ?_|refine AS ?_|refine AT rfl ?_|refine AU rfl ?_
          refine wr_call_e rfl ((cut_ok hE T.cut rB16 (n := 200) (by omega)).mono fun cv3 g17 ⟨e17, r17, _, _⟩ => ?_)
          subst e17
          repeat first|(refine BG ?_;first|(refine BH ?_;first|(refine BI ?_;refine BM ?_)|(refine BJ ?_;first|refine BN ?_|refine BO ?_)|refine BV (v_bne rfl rfl) ?_|refine BV (v_bxn sc rfl (Nat.le_refl _)) ?_|refine BV (v_bxn wc rfl (Nat.le_refl _)) ?_|refine BV (ro1.rs.lenv (by rfl)) ?_|refine BV (r17.lenv (by rfl)) ?_|refine BP ?_)|(refine BK ?_;first|refine BS rfl rfl ?_|refine BT rfl rfl ?_|refine BU rfl ?_)|(refine BL ?_;first|refine BW (ef_bxn wb rfl rfl rfl rfl (Nat.le_refl _)) ?_|refine BQ ?_)|(refine BR ?_;try simp only [setS]))|refine AA ?_|refine AC ?_|refine AD ?_|refine AE ?_|refine AF rfl rfl ?_|refine AG rfl rfl ?_|refine AH ?_|refine AI ?_|refine AJ ?_|refine AK ?_|refine AL ?_|refine AM ?_|refine AN ?_|refine AO ?_|refine AP ?_|refine AQ rfl ?_|refine AR ?_|refine AS ?_|refine AT rfl ?_|refine AU rfl ?_
          refine wr_call_e rfl ((same_ok hE T.same T.sameI (a := []) (b := []) (v := .snil) (w := .snil) ⟨rfl, rfl⟩ ⟨rfl, rfl⟩ (by simp) (by simp)).mono fun r h18 ⟨k18, e18⟩ => ?_)
          subst e18
          repeat first|(refine BG ?_;first|(refine BH ?_;first|(refine BI ?_;refine BM ?_)|(refine BJ ?_;first|refine BN ?_|refine BO ?_)|refine BP ?_)|(refine BK ?_;first|refine BS rfl rfl ?_|refine BT rfl rfl ?_|refine BU rfl ?_)|(refine BL ?_;first|refine BQ ?_)|(refine BR ?_;try simp only [setS]))|refine AA ?_|refine AC ?_|refine AD ?_|refine AE ?_|refine AF rfl rfl ?_|refine AG rfl rfl ?_|refine AH ?_|refine AI ?_|refine AJ ?_|refine AK ?_|refine AL ?_|refine AM ?_|refine AN ?_|refine AO ?_|refine AP ?_|refine AQ rfl ?_|refine AR ?_|refine AS ?_|refine AT rfl ?_|refine AU rfl ?_
          rw [show ((i : Int) + 1) = ((i + 1 : Nat) : Int) by omega]
          exact round_norm (n - 1) (by omega) ⟨i + 1, _, _, _, _, _, _, _, _, _, _, _, _, _, _, _, _, _, _, by omega, by omega, K17.and k18, rfl⟩
        · have hl1' : ¬ (recs.length : Int) = 1 := by omega
          repeat first|(refine BG ?_;first|(refine BH ?_;first|(refine BI ?_;refine BM ?_)|(refine BJ ?_;first|refine BN ?_|refine BO ?_)|refine BV (v_bne rfl rfl) ?_|refine BV (v_bxn sc rfl (Nat.le_refl _)) ?_|refine BV (v_bxn wc rfl (Nat.le_refl _)) ?_|refine BV (ro1.rs.lenv (by rfl)) ?_|refine BP ?_)|(refine BK ?_;first|refine BS rfl rfl ?_|refine BT rfl rfl ?_|refine BU rfl ?_)|(refine BL ?_;first|refine BW (ef_bxn wb rfl rfl rfl rfl (Nat.le_refl _)) ?_|refine BQ ?_)|(refine BR ?_;try simp only [setS]))|refine AA ?_|refine AC ?_|refine AD ?_|refine AE ?_|refine AF rfl rfl ?_|refine AG rfl rfl ?_|refine AH ?_|refine AI ?_|refine AJ ?_|refine AK ?_|refine AL ?_|refine AM ?_|refine AN ?_|refine AO ?_|refine AP ?_|refine AQ rfl ?_|refine AR ?_|refine AS ?_|refine AT rfl ?_|refine AU rfl ?_
          refine wr_call_e rfl ((same_ok hE T.same T.sameI (a := []) (b := []) (v := .snil) (w := .snil) ⟨rfl, rfl⟩ ⟨rfl, rfl⟩ (by simp) (by simp)).mono fun r h18 ⟨k18, e18⟩ => ?_)
          subst e18
          repeat first|(refine BG ?_;first|(refine BH ?_;first|(refine BI ?_;refine BM ?_)|(refine BJ ?_;first|refine BN ?_|refine BO ?_)|refine BP ?_)|(refine BK ?_;first|refine BS rfl rfl ?_|refine BT rfl rfl ?_|refine BU rfl ?_)|(refine BL ?_;first|refine BQ ?_)|(refine BR ?_;try simp only [setS]))|refine AA ?_|refine AC ?_|refine AD ?_|refine AE ?_|refine AF rfl rfl ?_|refine AG rfl rfl ?_|refine AH ?_|refine AI ?_|refine AJ ?_|refine AK ?_|refine AL ?_|refine AM ?_|refine AN ?_|refine AO ?_|refine AP ?_|refine AQ rfl ?_|refine AR ?_|refine AS ?_|refine AT rfl ?_|refine AU rfl ?_
          rw [show ((i : Int) + 1) = ((i + 1 : Nat) : Int) by omega]
          exact round_norm (n - 1) (by omega) ⟨i + 1, _, _, _, _, _, _, _, _, _, _, _, _, _, _, _, _, _, _, by omega, by omega, K17.and k18, rfl⟩
    · have hfine : fine = true := by cases fine with | true => rfl | false => exact absurd (.inl rfl) hf
      have hl1 : recs.length = 1 := Decidable.byContradiction fun q => hf (.inr (.inl q))
      have hen : en = (B.take 200).length := Decidable.byContradiction fun q => hf (.inr (.inr q))
      rw [if_neg hf] at p13
      obtain ⟨q, hq⟩ : ∃ q, recs[0]? = some q := ⟨recs[0]'(by omega), List.getElem?_eq_getElem (by omega)⟩
      have hq0 : recs.getD 0 [] = q := by rw [List.getD_eq_getElem?_getD, hq]; rfl
      have hql := hrl q (List.mem_of_getElem? hq)
      rw [hq0] at p13
      subst hfine
      have hen' : (en : Int) = ((B.take 200).length : Int) := by omega
      have hl1' : (recs.length : Int) = 1 := by omega
      cases hd : decP q with
      | none =>
        rw [hd] at p13
        simp only at p13
        subst p13
        have sb : Bx (h13.push (.rw [.snil, .int .i64 0, .int .i64 0])) h13.n _ := bx_push
        have sp : Keep NoB h13 (h13.push (.rw [.snil, .int .i64 0, .int .i64 0])) := Keep.push _ _ _
        have sq : Keep (OneB h13.n) (h13.push (.rw [.snil, .int .i64 0, .int .i64 0])) ((h13.push (.rw [.snil, .int .i64 0, .int .i64 0])).put h13.n (.rw [.snil, .int .i64 0, .int .i64 0])) := Keep.put _ _ _ rfl
        have sc : Bx ((h13.push (.rw [.snil, .int .i64 0, .int .i64 0])).put h13.n (.rw [.snil, .int .i64 0, .int .i64 0])) h13.n [.snil, .int .i64 0, .int .i64 0] := sb.put
        have K14 := (K13.and sp).own sq (fun k q => by have q : k = h13.n := q; omega)
        repeat first|(refine BG ?_;first|(refine BH ?_;first|(refine BI ?_;refine BM ?_)|(refine BJ ?_;first|refine BN ?_|refine BO ?_)|refine BP ?_)|(refine BK ?_;first|refine BS rfl rfl ?_|refine BT rfl rfl ?_|refine BU rfl ?_)|(refine BL ?_;first|refine BW (ef_bxn sb rfl rfl rfl rfl (Nat.le_refl _)) ?_|refine BQ ?_)|(refine BR ?_;try simp only [setS]))|refine AA ?_|refine AC ?_|refine AD ?_|refine AE ?_|refine AF rfl rfl ?_|refine AG rfl rfl ?_|refine AH ?_|refine AI ?_|refine AJ ?_|refine AK ?_|refine AL ?_|refine AM ?_|refine AN ?_|refine AO ?_|refine AP ?_|refine AQ rfl ?_|refine AR ?_|refine AS ?_|refine AT rfl ?_|refine AU rfl ?_
        obtain ⟨h14, hh14⟩ : ∃ h14 : Hp MD, h14 = (h13.push (.rw [.snil, .int .i64 0, .int .i64 0])).put h13.n (.rw [.snil, .int .i64 0, .int .i64 0]) := ⟨_, rfl⟩
        refine wr_heap (h' := h14) (by rw [hh14]; rfl) ?_
        rw [← hh14] at sc K14
        have rB14 := rB.up (((k12.and k13).and sp).own sq (fun k q => by have q : k = h13.n := q; have := k12.n; have := k13.n; omega))
        rw [← hh14] at rB14
        have b14 := sc.lt
        clear sb sp sq hh14
        refine wr_call_e rfl ((cut_ok hE T.cut rB14 (n := 200) (by omega)).mono fun cv2 g15 ⟨e15, r15, _, _⟩ => ?_)
        subst e15
        repeat first|(refine BG ?_;first|(refine BH ?_;first|(refine BI ?_;refine BM ?_)|(refine BJ ?_;first|refine BN ?_|refine BO ?_)|refine BP ?_)|(refine BK ?_;first|refine BS rfl rfl ?_|refine BT rfl rfl ?_|refine BU rfl ?_)|(refine BL ?_;first|refine BQ ?_)|(refine BR ?_;try simp only [setS]))|refine AA ?_|refine AC ?_|refine AD ?_|refine AE ?_|refine AF rfl rfl ?_|refine AG rfl rfl ?_|refine AH ?_|refine AI ?_|refine AJ ?_|refine AK ?_|refine AL ?_|refine AM ?_|refine AN ?_|refine AO ?_|refine AP ?_|refine AQ rfl ?_|refine AR ?_|refine AS ?_|refine AT rfl ?_|refine AU rfl ?_
        refine wr_call_e rfl ((hAo r15).mono fun r h16 ⟨ro, e16, k16, ⟨cells, ro1, ro2, ro3⟩⟩ => ?_)
        subst e16
        have sc := sc.up k16
        have K16 := K14.and k16
        have rB16 := rB14.up k16
        obtain ⟨c0, z1, z2, z3, z4⟩ := ro3 0 q hq
        obtain ⟨g0, o0, za, zl⟩ := ro1.rs.at2 (i := 0) (by omega)
        rw [z1] at zl
        have wb : Bx (h16.push (.rw [.snil, .int .i64 0, .int .i64 0])) h16.n _ := bx_push
        have wp : Keep NoB h16 (h16.push (.rw [.snil, .int .i64 0, .int .i64 0])) := Keep.push _ _ _
        have wq : Keep (OneB h16.n) (h16.push (.rw [.snil, .int .i64 0, .int .i64 0])) ((h16.push (.rw [.snil, .int .i64 0, .int .i64 0])).put h16.n (.rw [.snil, .int .i64 0, .int .i64 0])) := Keep.put _ _ _ rfl
        have wc : Bx ((h16.push (.rw [.snil, .int .i64 0, .int .i64 0])).put h16.n (.rw [.snil, .int .i64 0, .int .i64 0])) h16.n [.snil, .int .i64 0, .int .i64 0] := wb.put
        have b16 := sc.lt
        have n16 := K16.n
        have K17 := (K16.and wp).own wq (fun k q => by have q : k = h16.n := q; omega)
        have sc := (sc.up wp).keep wq (fun q => by have q : h13.n = h16.n := q; omega)
        have zc := (z3.up wp).keep wq (fun k q1 q2 => by have := z3.lt k q1; have q2 : k = h16.n := q2; omega)
        have zl := @zl _ _ ((wp.any (S := OneB h16.n)).trans wq (fun _ _ q => q)) (fun k q1 q2 => by have := ro1.lt k q1; have q2 : k = h16.n := q2; omega)
        repeat first|(refine BG ?_;first|(refine BH ?_;first|(refine BI ?_;refine BM ?_)|(refine BJ ?_;first|refine BN ?_|refine BO ?_)|refine BV (ro1.rs.lenv (by rfl)) ?_|refine BP ?_)|(refine BK ?_;first|refine BS rfl rfl ?_|refine BT rfl rfl ?_|refine BU rfl ?_)|(refine BL ?_;first|refine BW (ef_bxn wb rfl rfl rfl rfl (Nat.le_refl _)) ?_|refine BQ ?_)|(refine BR ?_;try simp only [setS]))|refine AA ?_|refine AC ?_|refine AD ?_|refine AE ?_|refine AF rfl rfl ?_|refine AG rfl rfl ?_|refine AH ?_|refine AI ?_|refine AJ ?_|refine AK ?_|refine AL ?_|refine AM ?_|refine AN ?_|refine AO ?_|refine AP ?_|refine AQ rfl ?_|refine AR ?_|refine AS ?_|refine AT rfl ?_|refine AU rfl ?_
        refine wr_call_e rfl ((cut_ok hE T.cut rB16 (n := 200) (by omega)).mono fun cv3 g17 ⟨e17, r17, _, _⟩ => ?_)
        subst e17
        repeat first|(refine BG ?_;first|(refine BH ?_;first|(refine BI ?_;refine BM ?_)|(refine BJ ?_;first|refine BN ?_|refine BO ?_)|refine BV (ro1.rs.lenv (by rfl)) ?_|refine BV (r17.lenv (by rfl)) ?_|refine BV (za rfl rfl) ?_|refine BV (zl rfl) ?_|refine BP ?_)|(refine BK ?_;first|refine BS rfl rfl ?_|refine BT rfl rfl ?_|refine BU rfl ?_)|(refine BL ?_;first|refine BW (ef_bxn wb rfl rfl rfl rfl (Nat.le_refl _)) ?_|refine BQ ?_)|(refine BR ?_;try simp only [setS]))|refine AA ?_|refine AC ?_|refine AD ?_|refine AE ?_|refine AF rfl rfl ?_|refine AG rfl rfl ?_|refine AH ?_|refine AI ?_|refine AJ ?_|refine AK ?_|refine AL ?_|refine AM ?_|refine AN ?_|refine AO ?_|refine AP ?_|refine AQ rfl ?_|refine AR ?_|refine AS ?_|refine AT rfl ?_|refine AU rfl ?_
        refine wr_call_e rfl ((rdec_ok hE T.toMfR zc (by omega)).mono fun r h18 ⟨k18, d18⟩ => ?_)
        rw [dec_eq, hd] at d18
        simp only at d18
        subst d18
        have sc := sc.up k18
        have wc := wc.up k18
        have hb1 := sc.lt
        have hb2 := wc.lt
        have xq : Keep (OneB g17.n) h18 (h18.put g17.n (.rw [.snil, .int .i64 0, .int .i64 0])) := Keep.put _ _ _ rfl
        have xc : Bx (h18.put g17.n (.rw [.snil, .int .i64 0, .int .i64 0])) g17.n [.snil, .int .i64 0, .int .i64 0] := wc.put
        have sx := sc.keep xq (fun q => by have q : h13.n = g17.n := q; omega)
        have K18 := (K17.and k18).own xq (fun k q => by have q : k = g17.n := q; omega)
        repeat first|(refine BG ?_;first|(refine BH ?_;first|(refine BI ?_;refine BM ?_)|(refine BJ ?_;first|refine BN ?_|refine BO ?_)|refine BV (v_bld3 rfl rfl rfl rfl rfl rfl) ?_|refine BV (v_bne rfl rfl) ?_|refine BV (v_bxn sx rfl (Nat.le_refl _)) ?_|refine BV (v_bxn xc rfl (Nat.le_refl _)) ?_|refine BP ?_)|(refine BK ?_;first|refine BS rfl rfl ?_|refine BT rfl rfl ?_|refine BU rfl ?_)|(refine BL ?_;first|refine BW (ef_bxn wc rfl rfl rfl rfl (Nat.le_refl _)) ?_|refine BQ ?_)|(refine BR ?_;try simp only [setS]))|refine AA ?_|refine AC ?_|refine AD ?_|refine AE ?_|refine AF rfl rfl ?_|refine AG rfl rfl ?_|refine AH ?_|refine AI ?_|refine AJ ?_|refine AK ?_|refine AL ?_|refine AM ?_|refine AN ?_|refine AO ?_|refine AP ?_|refine AQ rfl ?_|refine AR ?_|refine AS ?_|refine AT rfl ?_|refine AU rfl ?_
        refine wr_call_e rfl ((same_ok hE T.same T.sameI (a := []) (b := []) (v := .snil) (w := .snil) ⟨rfl, rfl⟩ ⟨rfl, rfl⟩ (by simp) (by simp)).mono fun r h20 ⟨k20, e20⟩ => ?_)
        subst e20
        repeat first|(refine BG ?_;first|(refine BH ?_;first|(refine BI ?_;refine BM ?_)|(refine BJ ?_;first|refine BN ?_|refine BO ?_)|refine BP ?_)|(refine BK ?_;first|refine BS rfl rfl ?_|refine BT rfl rfl ?_|refine BU rfl ?_)|(refine BL ?_;first|refine BQ ?_)|(refine BR ?_;try simp only [setS]))|refine AA ?_|refine AC ?_|refine AD ?_|refine AE ?_|refine AF rfl rfl ?_|refine AG rfl rfl ?_|refine AH ?_|refine AI ?_|refine AJ ?_|refine AK ?_|refine AL ?_|refine AM ?_|refine AN ?_|refine AO ?_|refine AP ?_|refine AQ rfl ?_|refine AR ?_|refine AS ?_|refine AT rfl ?_|refine AU rfl ?_
        rw [show ((i : Int) + 1) = ((i + 1 : Nat) : Int) by omega]
        exact round_norm (n - 1) (by omega) ⟨i + 1, _, _, _, _, _, _, _, _, _, _, _, _, _, _, _, _, _, _, by omega, by omega, K18.and k20, rfl⟩
      | some z =>
        obtain ⟨zs, w', n'⟩ := z
        rw [hd] at p13
        obtain ⟨tv, e13, o13, _⟩ := p13
        subst e13
        have hzl : zs.length ≤ 1000000 := by
          unfold decP at hd
          split at hd
          · cases hd
          · cases hm : mayF ((nums ((q.getD 0 0).toNat + 2) (q.drop 1)).take (q.getD 0 0).toNat) ((nums ((q.getD 0 0).toNat + 2) (q.drop 1)).getD (q.getD 0 0).toNat 0) ((nums ((q.getD 0 0).toNat + 2) (q.drop 1)).getD ((q.getD 0 0).toNat + 1) 0) with
            | false => rw [hm] at hd; cases hd
            | true =>
              rw [hm] at hd
              cases hd
              have := (mayF_iff.1 hm).len
              omega
        have sb : Bx (h13.push (.rw [.snil, .int .i64 0, .int .i64 0])) h13.n _ := bx_push
        have sp : Keep NoB h13 (h13.push (.rw [.snil, .int .i64 0, .int .i64 0])) := Keep.push _ _ _
        have sq : Keep (OneB h13.n) (h13.push (.rw [.snil, .int .i64 0, .int .i64 0])) ((h13.push (.rw [.snil, .int .i64 0, .int .i64 0])).put h13.n (.rw [tv, .int .i64 w', .int .i64 n'])) := Keep.put _ _ _ rfl
        have sc : Bx ((h13.push (.rw [.snil, .int .i64 0, .int .i64 0])).put h13.n (.rw [tv, .int .i64 w', .int .i64 n'])) h13.n [tv, .int .i64 w', .int .i64 n'] := sb.put
        have K14 := (K13.and sp).own sq (fun k q => by have q : k = h13.n := q; omega)
        have o14 := (o13.up sp).keep sq (fun k q1 q2 => by have := o13.lt k q1; have q2 : k = h13.n := q2; omega)
        repeat first|(refine BG ?_;first|(refine BH ?_;first|(refine BI ?_;refine BM ?_)|(refine BJ ?_;first|refine BN ?_|refine BO ?_)|refine BP ?_)|(refine BK ?_;first|refine BS rfl rfl ?_|refine BT rfl rfl ?_|refine BU rfl ?_)|(refine BL ?_;first|refine BW (ef_bxn sb rfl rfl (all3 o13.one.2) rfl (Nat.le_refl _)) ?_|refine BQ ?_)|(refine BR ?_;try simp only [setS]))|refine AA ?_|refine AC ?_|refine AD ?_|refine AE ?_|refine AF rfl rfl ?_|refine AG rfl rfl ?_|refine AH ?_|refine AI ?_|refine AJ ?_|refine AK ?_|refine AL ?_|refine AM ?_|refine AN ?_|refine AO ?_|refine AP ?_|refine AQ rfl ?_|refine AR ?_|refine AS ?_|refine AT rfl ?_|refine AU rfl ?_
        obtain ⟨h14, hh14⟩ : ∃ h14 : Hp MD, h14 = (h13.push (.rw [.snil, .int .i64 0, .int .i64 0])).put h13.n (.rw [tv, .int .i64 w', .int .i64 n']) := ⟨_, rfl⟩
        refine wr_heap (h' := h14) (by rw [hh14]; rfl) ?_
        rw [← hh14] at sc K14 o14
        have rB14 := rB.up (((k12.and k13).and sp).own sq (fun k q => by have q : k = h13.n := q; have := k12.n; have := k13.n; omega))
        rw [← hh14] at rB14
        have b14 := sc.lt
        clear sb sp sq hh14
        refine wr_call_e rfl ((cut_ok hE T.cut rB14 (n := 200) (by omega)).mono fun cv2 g15 ⟨e15, r15, _, _⟩ => ?_)
        subst e15
        repeat first|(refine BG ?_;first|(refine BH ?_;first|(refine BI ?_;refine BM ?_)|(refine BJ ?_;first|refine BN ?_|refine BO ?_)|refine BP ?_)|(refine BK ?_;first|refine BS rfl rfl ?_|refine BT rfl rfl ?_|refine BU rfl ?_)|(refine BL ?_;first|refine BQ ?_)|(refine BR ?_;try simp only [setS]))|refine AA ?_|refine AC ?_|refine AD ?_|refine AE ?_|refine AF rfl rfl ?_|refine AG rfl rfl ?_|refine AH ?_|refine AI ?_|refine AJ ?_|refine AK ?_|refine AL ?_|refine AM ?_|refine AN ?_|refine AO ?_|refine AP ?_|refine AQ rfl ?_|refine AR ?_|refine AS ?_|refine AT rfl ?_|refine AU rfl ?_
        refine wr_call_e rfl ((hAo r15).mono fun r h16 ⟨ro, e16, k16, ⟨cells, ro1, ro2, ro3⟩⟩ => ?_)
        subst e16
        have sc := sc.up k16
        have K16 := K14.and k16
        have rB16 := rB14.up k16
        obtain ⟨c0, z1, z2, z3, z4⟩ := ro3 0 q hq
        obtain ⟨g0, o0, za, zl⟩ := ro1.rs.at2 (i := 0) (by omega)
        rw [z1] at zl
        have wb : Bx (h16.push (.rw [.snil, .int .i64 0, .int .i64 0])) h16.n _ := bx_push
        have wp : Keep NoB h16 (h16.push (.rw [.snil, .int .i64 0, .int .i64 0])) := Keep.push _ _ _
        have wq : Keep (OneB h16.n) (h16.push (.rw [.snil, .int .i64 0, .int .i64 0])) ((h16.push (.rw [.snil, .int .i64 0, .int .i64 0])).put h16.n (.rw [.snil, .int .i64 0, .int .i64 0])) := Keep.put _ _ _ rfl
        have wc : Bx ((h16.push (.rw [.snil, .int .i64 0, .int .i64 0])).put h16.n (.rw [.snil, .int .i64 0, .int .i64 0])) h16.n [.snil, .int .i64 0, .int .i64 0] := wb.put
        have b16 := sc.lt
        have n16 := K16.n
        have K17 := (K16.and wp).own wq (fun k q => by have q : k = h16.n := q; omega)
        have sc := (sc.up wp).keep wq (fun q => by have q : h13.n = h16.n := q; omega)
        have zc := (z3.up wp).keep wq (fun k q1 q2 => by have := z3.lt k q1; have q2 : k = h16.n := q2; omega)
        have zl := @zl _ _ ((wp.any (S := OneB h16.n)).trans wq (fun _ _ q => q)) (fun k q1 q2 => by have := ro1.lt k q1; have q2 : k = h16.n := q2; omega)
        have o17 := ((o14.up k16).up wp).keep wq (fun k q1 q2 => by have := (o14.up k16).lt k q1; have q2 : k = h16.n := q2; omega)
        repeat first|(refine BG ?_;first|(refine BH ?_;first|(refine BI ?_;refine BM ?_)|(refine BJ ?_;first|refine BN ?_|refine BO ?_)|refine BV (ro1.rs.lenv (by rfl)) ?_|refine BP ?_)|(refine BK ?_;first|refine BS rfl rfl ?_|refine BT rfl rfl ?_|refine BU rfl ?_)|(refine BL ?_;first|refine BW (ef_bxn wb rfl rfl rfl rfl (Nat.le_refl _)) ?_|refine BQ ?_)|(refine BR ?_;try simp only [setS]))|refine AA ?_|refine AC ?_|refine AD ?_|refine AE ?_|refine AF rfl rfl ?_|refine AG rfl rfl ?_|refine AH ?_|refine AI ?_|refine AJ ?_|refine AK ?_|refine AL ?_|refine AM ?_|refine AN ?_|refine AO ?_|refine AP ?_|refine AQ rfl ?_|refine AR ?_|refine AS ?_|refine AT rfl ?_|refine AU rfl ?_
        refine wr_call_e rfl ((cut_ok hE T.cut rB16 (n := 200) (by omega)).mono fun cv3 g17 ⟨e17, r17, _, _⟩ => ?_)
        subst e17
        repeat first|(refine BG ?_;first|(refine BH ?_;first|(refine BI ?_;refine BM ?_)|(refine BJ ?_;first|refine BN ?_|refine BO ?_)|refine BV (ro1.rs.lenv (by rfl)) ?_|refine BV (r17.lenv (by rfl)) ?_|refine BV (za rfl rfl) ?_|refine BV (zl rfl) ?_|refine BP ?_)|(refine BK ?_;first|refine BS rfl rfl ?_|refine BT rfl rfl ?_|refine BU rfl ?_)|(refine BL ?_;first|refine BW (ef_bxn wb rfl rfl rfl rfl (Nat.le_refl _)) ?_|refine BQ ?_)|(refine BR ?_;try simp only [setS]))|refine AA ?_|refine AC ?_|refine AD ?_|refine AE ?_|refine AF rfl rfl ?_|refine AG rfl rfl ?_|refine AH ?_|refine AI ?_|refine AJ ?_|refine AK ?_|refine AL ?_|refine AM ?_|refine AN ?_|refine AO ?_|refine AP ?_|refine AQ rfl ?_|refine AR ?_|refine AS ?_|refine AT rfl ?_|refine AU rfl ?_
        refine wr_call_e rfl ((rdec_ok hE T.toMfR zc (by omega)).mono fun r h18 ⟨k18, d18⟩ => ?_)
        rw [dec_eq, hd] at d18
        obtain ⟨tv2, e18, o18, _⟩ := d18
        subst e18
        have sc := sc.up k18
        have wc := wc.up k18
        have hb1 := sc.lt
        have hb2 := wc.lt
        have xq : Keep (OneB g17.n) h18 (h18.put g17.n (.rw [tv2, .int .i64 w', .int .i64 n'])) := Keep.put _ _ _ rfl
        have xc : Bx (h18.put g17.n (.rw [tv2, .int .i64 w', .int .i64 n'])) g17.n [tv2, .int .i64 w', .int .i64 n'] := wc.put
        have sx := sc.keep xq (fun q => by have q : h13.n = g17.n := q; omega)
        have K18 := (K17.and k18).own xq (fun k q => by have q : k = g17.n := q; omega)
        have o19 := (o17.up k18).keep xq (fun k q1 q2 => by have := (o14.up k16).lt k q1; have q2 : k = g17.n := q2; omega)
        have o20 := o18.keep xq (fun k q1 q2 => by have := (‹∀ k, blk tv2 k → _ ≤ k›) k q1; have q2 : k = g17.n := q2; simp only [push_n, put_n] at this; omega)
        repeat first|(refine BG ?_;first|(refine BH ?_;first|(refine BI ?_;refine BM ?_)|(refine BJ ?_;first|refine BN ?_|refine BO ?_)|refine BV (v_bld3 rfl rfl rfl o18.one.1 rfl rfl) ?_|refine BV (v_bne rfl rfl) ?_|refine BV (v_bxn sx rfl (Nat.le_refl _)) ?_|refine BV (v_bxn xc rfl (Nat.le_refl _)) ?_|refine BP ?_)|(refine BK ?_;first|refine BS rfl rfl ?_|refine BT rfl rfl ?_|refine BU rfl ?_)|(refine BL ?_;first|refine BW (ef_bxn wc rfl rfl (all3 o18.one.2) rfl (Nat.le_refl _)) ?_|refine BQ ?_)|(refine BR ?_;try simp only [setS]))|refine AA ?_|refine AC ?_|refine AD ?_|refine AE ?_|refine AF rfl rfl ?_|refine AG rfl rfl ?_|refine AH ?_|refine AI ?_|refine AJ ?_|refine AK ?_|refine AL ?_|refine AM ?_|refine AN ?_|refine AO ?_|refine AP ?_|refine AQ rfl ?_|refine AR ?_|refine AS ?_|refine AT rfl ?_|refine AU rfl ?_
        refine wr_call_e rfl ((same_ok hE T.same T.sameI o19.rs o20.rs hzl hzl).mono fun r h20 ⟨k20, e20⟩ => ?_)
        subst e20
        rw [decide_eq_true (⟨rfl, rfl, rfl⟩ : zs = zs ∧ w' = w' ∧ n' = n')]
        repeat first|(refine BG ?_;first|(refine BH ?_;first|(refine BI ?_;refine BM ?_)|(refine BJ ?_;first|refine BN ?_|refine BO ?_)|refine BP ?_)|(refine BK ?_;first|refine BS rfl rfl ?_|refine BT rfl rfl ?_|refine BU rfl ?_)|(refine BL ?_;first|refine BQ ?_)|(refine BR ?_;try simp only [setS]))|refine AA ?_|refine AC ?_|refine AD ?_|refine AE ?_|refine AF rfl rfl ?_|refine AG rfl rfl ?_|refine AH ?_|refine AI ?_|refine AJ ?_|refine AK ?_|refine AL ?_|refine AM ?_|refine AN ?_|refine AO ?_|refine AP ?_|refine AQ rfl ?_|refine AR ?_|refine AS ?_|refine AT rfl ?_|refine AU rfl ?_
        rw [show ((i : Int) + 1) = ((i + 1 : Nat) : Int) by omega]
        exact round_norm (n - 1) (by omega) ⟨i + 1, _, _, _, _, _, _, _, _, _, _, _, _, _, _, _, _, _, _, by omega, by omega, K18.and k20, rfl⟩
  · have hi4 : i = 4 := by omega
    subst hi4
    repeat first|(refine BG ?_;first|(refine BH ?_;first|(refine BI ?_;refine BM ?_)|(refine BJ ?_;first|refine BN ?_|refine BO ?_)|refine BP ?_)|(refine BK ?_;first|refine BS rfl rfl ?_|refine BT rfl rfl ?_|refine BU rfl ?_)|(refine BL ?_;first|refine BQ ?_)|(refine BR ?_;try simp only [setS]))|refine AA ?_|refine AC ?_|refine AD ?_|refine AE ?_|refine AF rfl rfl ?_|refine AG rfl rfl ?_|refine AH ?_|refine AI ?_|refine AJ ?_|refine AK ?_|refine AL ?_|refine AM ?_|refine AN ?_|refine AO ?_|refine AP ?_|refine AQ rfl ?_|refine AR ?_|refine AS ?_|refine AT rfl ?_|refine AU rfl ?_
    refine wr_call_e rfl ((wf_true hE T.known).mono fun r h14 ⟨e14, e15⟩ => ?_)
    subst e14 e15
    repeat first|(refine BG ?_;first|(refine BH ?_;first|(refine BI ?_;refine BM ?_)|(refine BJ ?_;first|refine BN ?_|refine BO ?_)|refine BP ?_)|(refine BK ?_;first|refine BS rfl rfl ?_|refine BT rfl rfl ?_|refine BU rfl ?_)|(refine BL ?_;first|refine BQ ?_)|(refine BR ?_;try simp only [setS]))|refine AA ?_|refine AC ?_|refine AD ?_|refine AE ?_|refine AF rfl rfl ?_|refine AG rfl rfl ?_|refine AH ?_|refine AI ?_|refine AJ ?_|refine AK ?_|refine AL ?_|refine AM ?_|refine AN ?_|refine AO ?_|refine AP ?_|refine AQ rfl ?_|refine AR ?_|refine AS ?_|refine AT rfl ?_|refine AU rfl ?_
    rfl
end
end Am
end Go.Proofs.Ythgcdoahoechhaa
