/- ManifestCrashes: the law, walked. -/
import Derived.Test.YthgcdoahoechhaaMJ
import Derived.Test.YthgcdoahoechhaaMfQ
set_option linter.unusedVariables false
set_option linter.unusedSimpArgs false
namespace Go.Proofs.Ythgcdoahoechhaa
namespace Am
open Go.RowKit
set_option maxRecDepth 100000
def b_ManifestCrashes : BF := ⟨81, [0, 1, 2, 3, 4, 10, 11, 12, 13, 14, 15, 16, 17, 33, 55], (.seq (.reg [.mk none (.slot 5) (.mov (.mv (.const (.bool false))))]) (.seq (.reg [.mk none (.env 18) (.mov (.mv (.slot 0))), .mk none (.env 19) (.mov (.mv (.slot 2))), .mk none (.env 20) (.call 34 [(.env 18), (.env 19), (.const (.int .i64 1))]), .mk none (.env 21) (.mov (.mv (.slot 1))), .mk none (.env 22) (.mov (.mv (.slot 2))), .mk none (.env 23) (.mov (.bin .add .no (.env 22) (.const (.int .i64 1)))), .mk none (.env 24) (.call 34 [(.env 21), (.env 23), (.const (.int .i64 2))]), .mk none (.slot 6) (.eff (.alloc [.snil, (.int .i64 0), (.int .i64 0)])), .mk none (.slot 7) (.eff (.alloc [.snil, (.int .i64 0), (.int .i64 0)])), .mk none .none (.eff (.store 3 (.slot 6) (.env 20))), .mk none .none (.eff (.store 3 (.slot 7) (.env 24)))]) (.seq (.reg [.mk none (.env 25) (.call 48 []), .mk none (.slot 8) (.mov (.mv (.env 25)))]) (.seq (.seq (.reg [.mk none (.env 26) (.mov (.mv (.slot 8))), .mk none (.env 27) (.mov (.bin .eql .ptr (.env 26) (.const .nilp))), .mk none (.env 28) (.mov (.mv (.env 27))), .mk (some ((.env 28), false)) (.env 29) (.mov (.mv (.slot 8))), .mk (some ((.env 28), false)) (.env 30) (.mov (.ldn 3 (.slot 6))), .mk (some ((.env 28), false)) (.env 31) (.call 49 [(.env 29), (.env 30)]), .mk (some ((.env 28), false)) (.env 32) (.mov (.bin .neq .no (.env 31) (.const (.int .i64 0)))), .mk none (.slot 13) (.mov (.pick (.env 28) (.const (.bool true)) (.env 32)))]) (.cond (.slot 13) (.seq (.reg [.mk none (.slot 5) (.mov (.mv (.const (.bool false))))]) .ret) .skip)) (.seq (.reg [.mk none (.env 34) (.mov (.mv (.slot 8))), .mk none (.env 35) (.mov (.mv (.slot 3))), .mk none (.env 36) (.call 12 [(.env 35), (.const (.int .i64 0)), (.const (.int .i64 6))]), .mk none (.env 37) (.call 28 [(.env 34), (.env 36)])]) (.seq (.reg [.mk none (.env 38) (.mov (.mv (.slot 8))), .mk none (.env 39) (.mov (.ldn 3 (.slot 7))), .mk none (.env 40) (.call 49 [(.env 38), (.env 39)]), .mk none (.slot 9) (.mov (.mv (.env 40)))]) (.seq (.reg [.mk none (.env 41) (.mov (.mv (.slot 8))), .mk none (.env 42) (.mov (.mv (.slot 4))), .mk none (.env 43) (.call 22 [(.env 41), (.env 42)])]) (.seq (.reg [.mk none (.env 45) (.mov (.mv (.slot 8))), .mk none (.env 46) (.call 44 [(.env 45)]), .mk none (.env 44) (.mov (.mv (.env 46))), .mk none (.env 47) (.mov (.ext 0 (.env 44))), .mk none (.env 48) (.mov (.ext 1 (.env 44))), .mk none (.env 49) (.mov (.ext 2 (.env 44))), .mk none (.slot 10) (.eff (.alloc [.snil, (.int .i64 0), (.int .i64 0)])), .mk none .none (.eff (.store 3 (.slot 10) (.env 47))), .mk none (.slot 11) (.mov (.mv (.env 48))), .mk none (.slot 12) (.mov (.mv (.env 49)))]) (.seq (.seq (.reg [.mk none (.env 50) (.mov (.mv (.slot 11))), .mk none (.env 51) (.mov (.notb (.env 50))), .mk none (.env 52) (.mov (.mv (.env 51))), .mk (some ((.env 52), false)) (.env 53) (.mov (.mv (.slot 12))), .mk (some ((.env 52), false)) (.env 54) (.mov (.bin .neq .no (.env 53) (.const (.int .i64 0)))), .mk none (.slot 14) (.mov (.pick (.env 52) (.const (.bool true)) (.env 54)))]) (.cond (.slot 14) (.seq (.reg [.mk none (.slot 5) (.mov (.mv (.const (.bool false))))]) .ret) .skip)) (.seq (.reg [.mk none (.env 56) (.mov (.mv (.slot 9))), .mk none (.env 57) (.mov (.bin .eql .no (.env 56) (.const (.int .i64 0)))), .mk none (.env 58) (.mov (.mv (.env 57))), .mk (some ((.env 58), true)) (.env 59) (.mov (.ldn 3 (.slot 10))), .mk (some ((.env 58), true)) (.env 60) (.mov (.ldn 3 (.slot 7))), .mk (some ((.env 58), true)) (.env 61) (.call 47 [(.env 59), (.env 60)]), .mk none (.env 62) (.mov (.pick (.env 58) (.env 61) (.const (.bool false)))), .mk none (.env 63) (.mov (.mv (.env 62))), .mk (some ((.env 63), false)) (.env 64) (.mov (.mv (.slot 9))), .mk (some ((.env 63), false)) (.env 65) (.mov (.bin .eql .no (.env 64) (.const (.int .i64 13)))), .mk (some ((.env 63), false)) (.env 66) (.mov (.mv (.env 65))), .mk (some ((.env 66), true)) (.env 67) (.mov (.ldn 3 (.slot 10))), .mk (some ((.env 66), true)) (.env 68) (.mov (.ldn 3 (.slot 6))), .mk (some ((.env 66), true)) (.env 69) (.call 47 [(.env 67), (.env 68)]), .mk (some ((.env 63), false)) (.env 70) (.mov (.pick (.env 66) (.env 69) (.const (.bool false)))), .mk none (.env 71) (.mov (.pick (.env 63) (.const (.bool true)) (.env 70))), .mk none (.env 72) (.mov (.mv (.env 71))), .mk (some ((.env 72), true)) (.env 73) (.mov (.mv (.slot 8))), .mk (some ((.env 72), true)) (.env 74) (.mov (.ldn 3 (.slot 7))), .mk (some ((.env 72), true)) (.env 75) (.call 49 [(.env 73), (.env 74)]), .mk (some ((.env 72), true)) (.env 76) (.mov (.bin .eql .no (.env 75) (.const (.int .i64 0)))), .mk none (.env 77) (.mov (.pick (.env 72) (.env 76) (.const (.bool false)))), .mk none (.env 78) (.mov (.mv (.env 77))), .mk (some ((.env 78), true)) (.env 79) (.call 41 []), .mk none (.env 80) (.mov (.pick (.env 78) (.env 79) (.const (.bool false)))), .mk none (.slot 5) (.mov (.mv (.env 80)))]) .ret)))))))))), [.slot (.slot 5)]⟩
section
variable {E : Nat → Option (Ent MD)}
set_option maxHeartbeats 4000000 in
theorem crashes_ok (hE : ∀ f e, E f = some e → e.plain) (T : MfV E) (hlaw : E 11 = some (.bc b_ManifestCrashes)) {h : Hp MD} {va vb : AV} {a b : List Int} {wal arm keep : Int}
    (ha : RS h 1 va a.length (a.map iv)) (hax : ∀ x ∈ a, I64 x) (hal : a.length ≤ maxLen) (hb : RS h 1 vb b.length (b.map iv)) (hbx : ∀ x ∈ b, I64 x) (hbl : b.length ≤ maxLen) (hw : I64 wal) (harm : I64 arm) (hkeep : I64 keep) :
    WF (lim E) 11 [va, vb, .int .i64 wal, .int .i64 arm, .int .i64 keep] h fun r _ => r = .bool true := by
  refine wf_bc hE hlaw rfl ?_
  simp only [b_ManifestCrashes, List.map, getS]
  repeat first|(refine BG ?_;first|(refine BH ?_;first|(refine BI ?_;refine BM ?_)|(refine BJ ?_;first|refine BN ?_|refine BO ?_)|refine BP ?_)|(refine BK ?_;first|refine BS rfl rfl ?_|refine BT rfl rfl ?_|refine BU rfl ?_)|(refine BL ?_;first|refine BQ ?_)|(refine BR ?_;try simp only [setS]))|refine AA ?_|refine AC ?_|refine AD ?_|refine AE ?_|refine AF rfl rfl ?_|refine AG rfl rfl ?_|refine AH ?_|refine AI ?_|refine AJ ?_|refine AK ?_|refine AL ?_|refine AM ?_|refine AN ?_|refine AO ?_|refine AP ?_|refine AQ rfl ?_|refine AR ?_|refine AS ?_|refine AT rfl ?_|refine AU rfl ?_
  refine wr_call_e rfl ((made_ok hE T.made T.within ha hax hal hw (by unfold I64; omega)).mono fun r h1 ⟨xv, e1, k1, o1, l1⟩ => ?_)
  subst e1
  have hM := madeF_may a wal 1
  generalize madeF a wal 1 = q at *
  obtain ⟨xs, xw, xn⟩ := q
  simp only at o1 hM ⊢
  repeat first|(refine BG ?_;first|(refine BH ?_;first|(refine BI ?_;refine BM ?_)|(refine BJ ?_;first|refine BN ?_|refine BO ?_)|refine BV (v_addw rfl rfl) ?_|refine BP ?_)|(refine BK ?_;first|refine BS rfl rfl ?_|refine BT rfl rfl ?_|refine BU rfl ?_)|(refine BL ?_;first|refine BQ ?_)|(refine BR ?_;try simp only [setS]))|refine AA ?_|refine AC ?_|refine AD ?_|refine AE ?_|refine AF rfl rfl ?_|refine AG rfl rfl ?_|refine AH ?_|refine AI ?_|refine AJ ?_|refine AK ?_|refine AL ?_|refine AM ?_|refine AN ?_|refine AO ?_|refine AP ?_|refine AQ rfl ?_|refine AR ?_|refine AS ?_|refine AT rfl ?_|refine AU rfl ?_
  refine wr_call_e rfl ((made_ok hE T.made T.within (hb.up k1) hbx hbl wr_in (by unfold I64; omega)).mono fun r h2 ⟨yv, e2, k2, o2, l2⟩ => ?_)
  subst e2
  have hN := madeF_may b (wr .i64 (wal + 1)) 2
  generalize madeF b (wr .i64 (wal + 1)) 2 = q at *
  obtain ⟨ys, yw, yn⟩ := q
  simp only at o2 hN ⊢
  have o1 := o1.up k2
  have K2 := k1.and k2
  have n2 := k2.n
  have B6 : Bx ((h2.push (.rw [.snil, .int .i64 0, .int .i64 0])).push (.rw [.snil, .int .i64 0, .int .i64 0])) h2.n _ := bx_push.up (Keep.push _ _ _)
  have B7 : Bx ((h2.push (.rw [.snil, .int .i64 0, .int .i64 0])).push (.rw [.snil, .int .i64 0, .int .i64 0])) (h2.n + 1) _ := bx_push
  have K3 : Keep NoB h2 ((h2.push (.rw [.snil, .int .i64 0, .int .i64 0])).push (.rw [.snil, .int .i64 0, .int .i64 0])) := (Keep.push _ _ _).and (Keep.push _ _ _)
  have B7' := B7.put_ne (c := .rw [xv, .int .i64 xw, .int .i64 xn]) (j := h2.n) (by omega)
  repeat first|(refine BG ?_;first|(refine BH ?_;first|(refine BI ?_;refine BM ?_)|(refine BJ ?_;first|refine BN ?_|refine BO ?_)|refine BP ?_)|(refine BK ?_;first|refine BS rfl rfl ?_|refine BT rfl rfl ?_|refine BU rfl ?_)|(refine BL ?_;first|refine BW (ef_bxn B6 rfl rfl (all3 o1.one.2) rfl (Nat.le_refl _)) ?_|refine BW (ef_bxn B7' rfl rfl (all3 o2.one.2) rfl (Nat.le_refl _)) ?_|refine BQ ?_)|(refine BR ?_;try simp only [setS]))|refine AA ?_|refine AC ?_|refine AD ?_|refine AE ?_|refine AF rfl rfl ?_|refine AG rfl rfl ?_|refine AH ?_|refine AI ?_|refine AJ ?_|refine AK ?_|refine AL ?_|refine AM ?_|refine AN ?_|refine AO ?_|refine AP ?_|refine AQ rfl ?_|refine AR ?_|refine AS ?_|refine AT rfl ?_|refine AU rfl ?_
  obtain ⟨h3, hh3⟩ : ∃ h3 : Hp MD, h3 = ((((h2.push (.rw [.snil, .int .i64 0, .int .i64 0])).push (.rw [.snil, .int .i64 0, .int .i64 0])).put h2.n (.rw [xv, .int .i64 xw, .int .i64 xn])).put (h2.n + 1) (.rw [yv, .int .i64 yw, .int .i64 yn])) := ⟨_, rfl⟩
  have kA : Keep (OneB h2.n) _ _ := Keep.put ((h2.push (.rw [.snil, .int .i64 0, .int .i64 0])).push (.rw [.snil, .int .i64 0, .int .i64 0])) h2.n (.rw [xv, .int .i64 xw, .int .i64 xn]) (S := OneB h2.n) rfl
  have kB : Keep (OneB (h2.n + 1)) _ _ := Keep.put (((h2.push (.rw [.snil, .int .i64 0, .int .i64 0])).push (.rw [.snil, .int .i64 0, .int .i64 0])).put h2.n (.rw [xv, .int .i64 xw, .int .i64 xn])) (h2.n + 1) (.rw [yv, .int .i64 yw, .int .i64 yn]) (S := OneB (h2.n + 1)) rfl
  rw [← hh3] at kB
  have KK : Keep NoB h2 h3 := (K3.own kA (fun k q => by have q : k = h2.n := q; omega)).own kB (fun k q => by have q : k = h2.n + 1 := q; omega)
  have L6 : LBx h3 h2.n h2.n xs xw xn := ⟨⟨xv, by rw [hh3]; exact (B6.put (r := [xv, .int .i64 xw, .int .i64 xn])).put_ne (by omega), o1.rs.up KK, o1.lt⟩⟩
  have L7 : LBx h3 (h2.n + 1) h2.n ys yw yn := ⟨⟨yv, by rw [hh3]; exact B7'.put, o2.rs.up KK, o2.lt⟩⟩
  have hxl : xs.length ≤ 1000000 := by have := hM.len; omega
  have hyl : ys.length ≤ 1000000 := by have := hN.len; omega
  refine wr_heap (h' := h3) (by rw [hh3]; rfl) ?_
  have hn3 := KK.n
  clear hh3 kA kB B6 B7 B7' K3 o1 o2 l1 l2
  have q6 := L6.lt
  have q7 := L7.lt
  repeat first|(refine BG ?_;first|(refine BH ?_;first|(refine BI ?_;refine BM ?_)|(refine BJ ?_;first|refine BN ?_|refine BO ?_)|refine BP ?_)|(refine BK ?_;first|refine BS rfl rfl ?_|refine BT rfl rfl ?_|refine BU rfl ?_)|(refine BL ?_;first|refine BQ ?_)|(refine BR ?_;try simp only [setS]))|refine AA ?_|refine AC ?_|refine AD ?_|refine AE ?_|refine AF rfl rfl ?_|refine AG rfl rfl ?_|refine AH ?_|refine AI ?_|refine AJ ?_|refine AK ?_|refine AL ?_|refine AM ?_|refine AN ?_|refine AO ?_|refine AP ?_|refine AQ rfl ?_|refine AR ?_|refine AS ?_|refine AT rfl ?_|refine AU rfl ?_
  refine wr_call_e rfl ((fresh_ok hE T).mono fun r h4 ⟨e4, d4, k4⟩ => ?_)
  subst e4
  have hD : h3.n < h4.n := d4.lt
  have L6 := L6.up k4
  have L7 := L7.up k4
  obtain ⟨v6, b6, r6, m6⟩ := L6.out
  have f6 : ¬ OneB h3.n h2.n := fun q => by have q : h2.n = h3.n := q; omega
  have f7 : ¬ OneB h3.n (h2.n + 1) := fun q => by have q : h2.n + 1 = h3.n := q; omega
  have f8 : ∀ j, OneB h3.n j → h2.n ≤ j := fun j q => by have q : j = h3.n := q; omega
  repeat first|(refine BG ?_;first|(refine BH ?_;first|(refine BI ?_;refine BM ?_)|(refine BJ ?_;first|refine BN ?_|refine BO ?_)|refine BV (v_pnil rfl) ?_|refine BV (v_bxn b6 rfl (Nat.le_refl _)) ?_|refine BP ?_)|(refine BK ?_;first|refine BS rfl rfl ?_|refine BT rfl rfl ?_|refine BU rfl ?_)|(refine BL ?_;first|refine BQ ?_)|(refine BR ?_;try simp only [setS]))|refine AA ?_|refine AC ?_|refine AD ?_|refine AE ?_|refine AF rfl rfl ?_|refine AG rfl rfl ?_|refine AH ?_|refine AI ?_|refine AJ ?_|refine AK ?_|refine AL ?_|refine AM ?_|refine AN ?_|refine AO ?_|refine AP ?_|refine AQ rfl ?_|refine AR ?_|refine AS ?_|refine AT rfl ?_|refine AU rfl ?_
  have w1 := write_ready (x := MD.new 16777216) (o := none) (p := none) ⟨rfl, rfl, rfl⟩ rfl hM (by decide)
  refine wr_call_e rfl ((write_ok hE T.toMfIO d4 (by decide) r6 hxl).mono fun r h5 ⟨e5, d5, k5⟩ => ?_)
  rw [w1] at e5 d5
  replace d5 : Ob h5 h3.n ⟨16777216, 0, false, FL (some (recB (encM xs xw xn), (recB (encM xs xw xn)).length)) none⟩ := d5
  replace e5 : r = .int .i64 0 := e5
  subst e5
  have L6 := L6.keep k5 f6 f8
  have L7 := L7.keep k5 f7 f8
  have harm' := withinF_in (n := arm) (lo := 0) (hi := 6) (by omega)
  repeat first|(refine BG ?_;first|(refine BH ?_;first|(refine BI ?_;refine BM ?_)|(refine BJ ?_;first|refine BN ?_|refine BO ?_)|refine BP ?_)|(refine BK ?_;first|refine BS rfl rfl ?_|refine BT rfl rfl ?_|refine BU rfl ?_)|(refine BL ?_;first|refine BQ ?_)|(refine BR ?_;try simp only [setS]))|refine AA ?_|refine AC ?_|refine AD ?_|refine AE ?_|refine AF rfl rfl ?_|refine AG rfl rfl ?_|refine AH ?_|refine AI ?_|refine AJ ?_|refine AK ?_|refine AL ?_|refine AM ?_|refine AN ?_|refine AO ?_|refine AP ?_|refine AQ rfl ?_|refine AR ?_|refine AS ?_|refine AT rfl ?_|refine AU rfl ?_
  refine wr_call_e rfl ((within_ok hE T.within harm (lo := 0) (hi := 6) (by omega) (by omega) (by omega)).mono fun r h6 ⟨e6, e7⟩ => ?_)
  subst e6 e7
  generalize withinF arm 0 6 = k at *
  repeat first|(refine BG ?_;first|(refine BH ?_;first|(refine BI ?_;refine BM ?_)|(refine BJ ?_;first|refine BN ?_|refine BO ?_)|refine BP ?_)|(refine BK ?_;first|refine BS rfl rfl ?_|refine BT rfl rfl ?_|refine BU rfl ?_)|(refine BL ?_;first|refine BQ ?_)|(refine BR ?_;try simp only [setS]))|refine AA ?_|refine AC ?_|refine AD ?_|refine AE ?_|refine AF rfl rfl ?_|refine AG rfl rfl ?_|refine AH ?_|refine AI ?_|refine AJ ?_|refine AK ?_|refine AL ?_|refine AM ?_|refine AN ?_|refine AO ?_|refine AP ?_|refine AQ rfl ?_|refine AR ?_|refine AS ?_|refine AT rfl ?_|refine AU rfl ?_
  refine wr_call_e rfl ((w_int hE T.arm d5 (len_fl' (o := some (recB (encM xs xw xn), (recB (encM xs xw xn)).length)) (p := none) (n := 1099511627775) (by omega)) (n := k) (by omega)).mono fun r h7 ⟨e7, d7, k7⟩ => ?_)
  subst e7
  have L6 := L6.keep k7 f6 f8
  have L7 := L7.keep k7 f7 f8
  obtain ⟨v7, b7, r7, m7⟩ := L7.out
  have hRx : (recB (encM xs xw xn)).length ≤ 2000 := by rw [recB_len]; have := encM_le hM; omega
  have harmE : MD.arm ⟨16777216, 0, false, FL (some (recB (encM xs xw xn), (recB (encM xs xw xn)).length)) none⟩ k = ⟨16777216, k, false, FL (some (recB (encM xs xw xn), (recB (encM xs xw xn)).length)) none⟩ := by
    unfold MD.arm
    simp
    omega
  rw [harmE] at d7
  repeat first|(refine BG ?_;first|(refine BH ?_;first|(refine BI ?_;refine BM ?_)|(refine BJ ?_;first|refine BN ?_|refine BO ?_)|refine BV (v_bxn b7 rfl (Nat.le_refl _)) ?_|refine BP ?_)|(refine BK ?_;first|refine BS rfl rfl ?_|refine BT rfl rfl ?_|refine BU rfl ?_)|(refine BL ?_;first|refine BQ ?_)|(refine BR ?_;try simp only [setS]))|refine AA ?_|refine AC ?_|refine AD ?_|refine AE ?_|refine AF rfl rfl ?_|refine AG rfl rfl ?_|refine AH ?_|refine AI ?_|refine AJ ?_|refine AK ?_|refine AL ?_|refine AM ?_|refine AN ?_|refine AO ?_|refine AP ?_|refine AQ rfl ?_|refine AR ?_|refine AS ?_|refine AT rfl ?_|refine AU rfl ?_
  obtain ⟨e, x, o, p, w2, x1, x2, x3, x4⟩ := write_armed (B := recB (encM xs xw xn)) hN (by omega) harm'.1 harm'.2
  refine wr_call_e rfl ((write_ok hE T.toMfIO d7 (len_fl' (o := some (recB (encM xs xw xn), (recB (encM xs xw xn)).length)) (p := none) (n := 1000000) (by omega)) r7 hyl).mono fun r h8 ⟨e8, d8, k8⟩ => ?_)
  rw [w2] at e8 d8
  simp only at e8 d8
  subst e8
  have L6 := L6.keep k8 f6 f8
  have L7 := L7.keep k8 f7 f8
  repeat first|(refine BG ?_;first|(refine BH ?_;first|(refine BI ?_;refine BM ?_)|(refine BJ ?_;first|refine BN ?_|refine BO ?_)|refine BP ?_)|(refine BK ?_;first|refine BS rfl rfl ?_|refine BT rfl rfl ?_|refine BU rfl ?_)|(refine BL ?_;first|refine BQ ?_)|(refine BR ?_;try simp only [setS]))|refine AA ?_|refine AC ?_|refine AD ?_|refine AE ?_|refine AF rfl rfl ?_|refine AG rfl rfl ?_|refine AH ?_|refine AI ?_|refine AJ ?_|refine AK ?_|refine AL ?_|refine AM ?_|refine AN ?_|refine AO ?_|refine AP ?_|refine AQ rfl ?_|refine AR ?_|refine AS ?_|refine AT rfl ?_|refine AU rfl ?_
  refine wr_call_e rfl ((w_int hE T.crash d8 (by rw [x1]; exact len_fl' (n := 1099511627775) (by omega)) (n := keep) hkeep).mono fun r h9 ⟨e9, d9, k9⟩ => ?_)
  subst e9
  have L6 := L6.keep k9 f6 f8
  have L7 := L7.keep k9 f7 f8
  obtain ⟨p', y1, y2, y3, y4, y5⟩ := crash_fl x1 keep
  generalize x.crash keep = y at *
  repeat first|(refine BG ?_;first|(refine BH ?_;first|(refine BI ?_;refine BM ?_)|(refine BJ ?_;first|refine BN ?_|refine BO ?_)|refine BP ?_)|(refine BK ?_;first|refine BS rfl rfl ?_|refine BT rfl rfl ?_|refine BU rfl ?_)|(refine BL ?_;first|refine BQ ?_)|(refine BR ?_;try simp only [setS]))|refine AA ?_|refine AC ?_|refine AD ?_|refine AE ?_|refine AF rfl rfl ?_|refine AG rfl rfl ?_|refine AH ?_|refine AI ?_|refine AJ ?_|refine AK ?_|refine AL ?_|refine AM ?_|refine AN ?_|refine AO ?_|refine AP ?_|refine AQ rfl ?_|refine AR ?_|refine AS ?_|refine AT rfl ?_|refine AU rfl ?_
  have hg := get_fl y1
  have hfl : y.fs.length ≤ 1000000 := by rw [y1]; exact len_fl' (by omega)
  have ho : o.length ≤ 2000 := by
    rcases x4 with ⟨_, rfl⟩ | ⟨_, rfl⟩
    · rw [recB_len]; have := encM_le hN; omega
    · exact hRx
  refine wr_call_e rfl ((read_ok hE T.toMfIO d9 hfl (fun m hm => by rw [hg] at hm; cases hm; simp only; omega)).mono fun r h10 ⟨k10, p10⟩ => ?_)
  rw [hg] at p10
  have L6 := L6.up k10
  have L7 := L7.up k10
  have d10 := d9.up k10
  have w3 := write_ready (x := y) ⟨y2.trans x2, y3, y4⟩ y1 hN (show o.length ≤ 100000 by omega)
  have fin : ∀ {ts : List Int} {tw tn : Int}, MayP ts tw tn → o = recB (encM ts tw tn) → ∃ tv, r = .tup [LsV tv tw tn, .bool true, .int .i64 0] ∧ OS h10 1 tv ts.length (ts.map iv) ∧ ∀ k, blk tv k → h9.n ≤ k := fun {ts tw tn} hm ho' => by
    simp only [Option.map_some, ho'] at p10
    rw [readF_rec hm] at p10
    exact p10
  rcases x4 with ⟨rfl, ho'⟩ | ⟨rfl, ho'⟩
  · obtain ⟨tv, e10, o10, l10⟩ := fin hN ho'
    subst e10
    have bz : Bx (h10.push (.rw [.snil, .int .i64 0, .int .i64 0])) h10.n _ := bx_push
    have kp : Keep NoB h10 (h10.push (.rw [.snil, .int .i64 0, .int .i64 0])) := Keep.push _ _ _
    have kq : Keep (OneB h10.n) (h10.push (.rw [.snil, .int .i64 0, .int .i64 0])) ((h10.push (.rw [.snil, .int .i64 0, .int .i64 0])).put h10.n (.rw [tv, .int .i64 yw, .int .i64 yn])) := Keep.put _ _ _ rfl
    have g6 := L6.lt
    have g7 := L7.lt
    have g8 := d10.lt
    have L6 := (L6.up kp).keep kq (fun q => by have q : h2.n = h10.n := q; omega) (fun j q => by have q : j = h10.n := q; omega)
    have L7 := (L7.up kp).keep kq (fun q => by have q : h2.n + 1 = h10.n := q; omega) (fun j q => by have q : j = h10.n := q; omega)
    have d11 := (d10.up kp).keep kq (fun q => by have q : h3.n = h10.n := q; omega)
    have o11 := (o10.up kp).keep kq (fun j q1 q2 => by have := o10.lt j q1; have q2 : j = h10.n := q2; omega)
    have bz1 : Bx ((h10.push (.rw [.snil, .int .i64 0, .int .i64 0])).put h10.n (.rw [tv, .int .i64 yw, .int .i64 yn])) h10.n [tv, .int .i64 yw, .int .i64 yn] := bz.put
    obtain ⟨vx, bx, rx, _⟩ := L7.out
    repeat first|(refine BG ?_;first|(refine BH ?_;first|(refine BI ?_;refine BM ?_)|(refine BJ ?_;first|refine BN ?_|refine BO ?_)|refine BV (v_bxn bz1 rfl (Nat.le_refl _)) ?_|refine BV (v_bxn bx rfl (Nat.le_refl _)) ?_|refine BP ?_)|(refine BK ?_;first|refine BS rfl rfl ?_|refine BT rfl rfl ?_|refine BU rfl ?_)|(refine BL ?_;first|refine BW (ef_bxn bz rfl rfl (all3 o10.one.2) rfl (Nat.le_refl _)) ?_|refine BQ ?_)|(refine BR ?_;try simp only [setS]))|refine AA ?_|refine AC ?_|refine AD ?_|refine AE ?_|refine AF rfl rfl ?_|refine AG rfl rfl ?_|refine AH ?_|refine AI ?_|refine AJ ?_|refine AK ?_|refine AL ?_|refine AM ?_|refine AN ?_|refine AO ?_|refine AP ?_|refine AQ rfl ?_|refine AR ?_|refine AS ?_|refine AT rfl ?_|refine AU rfl ?_
    refine wr_call_e rfl ((same_ok hE T.same T.sameI o11.rs rx hyl hyl).mono fun r h12 ⟨k12, e12⟩ => ?_)
    subst e12
    rw [decide_eq_true (⟨rfl, rfl, rfl⟩ : ys = ys ∧ yw = yw ∧ yn = yn)]
    have L7 := L7.up k12
    have d12 := d11.up k12
    obtain ⟨vy, by', ry, _⟩ := L7.out
    repeat first|(refine BG ?_;first|(refine BH ?_;first|(refine BI ?_;refine BM ?_)|(refine BJ ?_;first|refine BN ?_|refine BO ?_)|refine BV (v_bxn by' rfl (Nat.le_refl _)) ?_|refine BP ?_)|(refine BK ?_;first|refine BS rfl rfl ?_|refine BT rfl rfl ?_|refine BU rfl ?_)|(refine BL ?_;first|refine BQ ?_)|(refine BR ?_;try simp only [setS]))|refine AA ?_|refine AC ?_|refine AD ?_|refine AE ?_|refine AF rfl rfl ?_|refine AG rfl rfl ?_|refine AH ?_|refine AI ?_|refine AJ ?_|refine AK ?_|refine AL ?_|refine AM ?_|refine AN ?_|refine AO ?_|refine AP ?_|refine AQ rfl ?_|refine AR ?_|refine AS ?_|refine AT rfl ?_|refine AU rfl ?_
    refine wr_call_e rfl ((write_ok hE T.toMfIO d12 hfl ry hyl).mono fun r h13 ⟨e13, d13, k13⟩ => ?_)
    rw [w3] at e13
    simp only at e13
    subst e13
    repeat first|(refine BG ?_;first|(refine BH ?_;first|(refine BI ?_;refine BM ?_)|(refine BJ ?_;first|refine BN ?_|refine BO ?_)|refine BP ?_)|(refine BK ?_;first|refine BS rfl rfl ?_|refine BT rfl rfl ?_|refine BU rfl ?_)|(refine BL ?_;first|refine BQ ?_)|(refine BR ?_;try simp only [setS]))|refine AA ?_|refine AC ?_|refine AD ?_|refine AE ?_|refine AF rfl rfl ?_|refine AG rfl rfl ?_|refine AH ?_|refine AI ?_|refine AJ ?_|refine AK ?_|refine AL ?_|refine AM ?_|refine AN ?_|refine AO ?_|refine AP ?_|refine AQ rfl ?_|refine AR ?_|refine AS ?_|refine AT rfl ?_|refine AU rfl ?_
    refine wr_call_e rfl ((wf_true hE T.known).mono fun r h14 ⟨e14, e15⟩ => ?_)
    subst e14 e15
    repeat first|(refine BG ?_;first|(refine BH ?_;first|(refine BI ?_;refine BM ?_)|(refine BJ ?_;first|refine BN ?_|refine BO ?_)|refine BP ?_)|(refine BK ?_;first|refine BS rfl rfl ?_|refine BT rfl rfl ?_|refine BU rfl ?_)|(refine BL ?_;first|refine BQ ?_)|(refine BR ?_;try simp only [setS]))|refine AA ?_|refine AC ?_|refine AD ?_|refine AE ?_|refine AF rfl rfl ?_|refine AG rfl rfl ?_|refine AH ?_|refine AI ?_|refine AJ ?_|refine AK ?_|refine AL ?_|refine AM ?_|refine AN ?_|refine AO ?_|refine AP ?_|refine AQ rfl ?_|refine AR ?_|refine AS ?_|refine AT rfl ?_|refine AU rfl ?_
    rfl
  · obtain ⟨tv, e10, o10, l10⟩ := fin hM ho'
    subst e10
    have bz : Bx (h10.push (.rw [.snil, .int .i64 0, .int .i64 0])) h10.n _ := bx_push
    have kp : Keep NoB h10 (h10.push (.rw [.snil, .int .i64 0, .int .i64 0])) := Keep.push _ _ _
    have kq : Keep (OneB h10.n) (h10.push (.rw [.snil, .int .i64 0, .int .i64 0])) ((h10.push (.rw [.snil, .int .i64 0, .int .i64 0])).put h10.n (.rw [tv, .int .i64 xw, .int .i64 xn])) := Keep.put _ _ _ rfl
    have g6 := L6.lt
    have g7 := L7.lt
    have g8 := d10.lt
    have L6 := (L6.up kp).keep kq (fun q => by have q : h2.n = h10.n := q; omega) (fun j q => by have q : j = h10.n := q; omega)
    have L7 := (L7.up kp).keep kq (fun q => by have q : h2.n + 1 = h10.n := q; omega) (fun j q => by have q : j = h10.n := q; omega)
    have d11 := (d10.up kp).keep kq (fun q => by have q : h3.n = h10.n := q; omega)
    have o11 := (o10.up kp).keep kq (fun j q1 q2 => by have := o10.lt j q1; have q2 : j = h10.n := q2; omega)
    have bz1 : Bx ((h10.push (.rw [.snil, .int .i64 0, .int .i64 0])).put h10.n (.rw [tv, .int .i64 xw, .int .i64 xn])) h10.n [tv, .int .i64 xw, .int .i64 xn] := bz.put
    obtain ⟨vx, bx, rx, _⟩ := L6.out
    repeat first|(refine BG ?_;first|(refine BH ?_;first|(refine BI ?_;refine BM ?_)|(refine BJ ?_;first|refine BN ?_|refine BO ?_)|refine BV (v_bxn bz1 rfl (Nat.le_refl _)) ?_|refine BV (v_bxn bx rfl (Nat.le_refl _)) ?_|refine BP ?_)|(refine BK ?_;first|refine BS rfl rfl ?_|refine BT rfl rfl ?_|refine BU rfl ?_)|(refine BL ?_;first|refine BW (ef_bxn bz rfl rfl (all3 o10.one.2) rfl (Nat.le_refl _)) ?_|refine BQ ?_)|(refine BR ?_;try simp only [setS]))|refine AA ?_|refine AC ?_|refine AD ?_|refine AE ?_|refine AF rfl rfl ?_|refine AG rfl rfl ?_|refine AH ?_|refine AI ?_|refine AJ ?_|refine AK ?_|refine AL ?_|refine AM ?_|refine AN ?_|refine AO ?_|refine AP ?_|refine AQ rfl ?_|refine AR ?_|refine AS ?_|refine AT rfl ?_|refine AU rfl ?_
    refine wr_call_e rfl ((same_ok hE T.same T.sameI o11.rs rx hxl hxl).mono fun r h12 ⟨k12, e12⟩ => ?_)
    subst e12
    rw [decide_eq_true (⟨rfl, rfl, rfl⟩ : xs = xs ∧ xw = xw ∧ xn = xn)]
    have L7 := L7.up k12
    have d12 := d11.up k12
    obtain ⟨vy, by', ry, _⟩ := L7.out
    repeat first|(refine BG ?_;first|(refine BH ?_;first|(refine BI ?_;refine BM ?_)|(refine BJ ?_;first|refine BN ?_|refine BO ?_)|refine BV (v_bxn by' rfl (Nat.le_refl _)) ?_|refine BP ?_)|(refine BK ?_;first|refine BS rfl rfl ?_|refine BT rfl rfl ?_|refine BU rfl ?_)|(refine BL ?_;first|refine BQ ?_)|(refine BR ?_;try simp only [setS]))|refine AA ?_|refine AC ?_|refine AD ?_|refine AE ?_|refine AF rfl rfl ?_|refine AG rfl rfl ?_|refine AH ?_|refine AI ?_|refine AJ ?_|refine AK ?_|refine AL ?_|refine AM ?_|refine AN ?_|refine AO ?_|refine AP ?_|refine AQ rfl ?_|refine AR ?_|refine AS ?_|refine AT rfl ?_|refine AU rfl ?_
    refine wr_call_e rfl ((write_ok hE T.toMfIO d12 hfl ry hyl).mono fun r h13 ⟨e13, d13, k13⟩ => ?_)
    rw [w3] at e13
    simp only at e13
    subst e13
    repeat first|(refine BG ?_;first|(refine BH ?_;first|(refine BI ?_;refine BM ?_)|(refine BJ ?_;first|refine BN ?_|refine BO ?_)|refine BP ?_)|(refine BK ?_;first|refine BS rfl rfl ?_|refine BT rfl rfl ?_|refine BU rfl ?_)|(refine BL ?_;first|refine BQ ?_)|(refine BR ?_;try simp only [setS]))|refine AA ?_|refine AC ?_|refine AD ?_|refine AE ?_|refine AF rfl rfl ?_|refine AG rfl rfl ?_|refine AH ?_|refine AI ?_|refine AJ ?_|refine AK ?_|refine AL ?_|refine AM ?_|refine AN ?_|refine AO ?_|refine AP ?_|refine AQ rfl ?_|refine AR ?_|refine AS ?_|refine AT rfl ?_|refine AU rfl ?_
    refine wr_call_e rfl ((wf_true hE T.known).mono fun r h14 ⟨e14, e15⟩ => ?_)
    subst e14 e15
    repeat first|(refine BG ?_;first|(refine BH ?_;first|(refine BI ?_;refine BM ?_)|(refine BJ ?_;first|refine BN ?_|refine BO ?_)|refine BP ?_)|(refine BK ?_;first|refine BS rfl rfl ?_|refine BT rfl rfl ?_|refine BU rfl ?_)|(refine BL ?_;first|refine BQ ?_)|(refine BR ?_;try simp only [setS]))|refine AA ?_|refine AC ?_|refine AD ?_|refine AE ?_|refine AF rfl rfl ?_|refine AG rfl rfl ?_|refine AH ?_|refine AI ?_|refine AJ ?_|refine AK ?_|refine AL ?_|refine AM ?_|refine AN ?_|refine AO ?_|refine AP ?_|refine AQ rfl ?_|refine AR ?_|refine AS ?_|refine AT rfl ?_|refine AU rfl ?_
    rfl
end
end Am
end Go.Proofs.Ythgcdoahoechhaa
