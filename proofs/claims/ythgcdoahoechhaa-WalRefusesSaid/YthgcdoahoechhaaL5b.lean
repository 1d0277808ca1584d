/- WalRefuses: the law, walked. -/
import Derived.Test.YthgcdoahoechhaaWaT
import Derived.Test.YthgcdoahoechhaaL5c
import Derived.Test.YthgcdoahoechhaaMJ
set_option linter.unusedVariables false
set_option linter.unusedSimpArgs false
namespace Go.Proofs.Ythgcdoahoechhaa
namespace Am
open Go.RowKit
set_option maxRecDepth 100000
def b_WalRefuses : BF := ⟨155, [0, 1, 2, 6, 7, 8, 9, 10, 12, 13, 14, 15, 16, 18, 19, 21, 22, 37, 49, 57, 74, 96, 108, 110], (.seq (.reg [.mk none (.slot 3) (.mov (.mv (.const (.bool false))))]) (.seq (.reg [.mk none (.env 23) (.mov (.mv (.slot 0))), .mk none (.env 24) (.call 17 [(.env 23), (.const (.int .i64 8))]), .mk none (.slot 0) (.mov (.mv (.env 24)))]) (.seq (.reg [.mk none (.env 25) (.mov (.mv (.slot 1))), .mk none (.env 26) (.call 12 [(.env 25), (.const (.int .i64 0)), (.const (.int .i64 300))]), .mk none (.slot 4) (.mov (.mv (.env 26)))]) (.seq (.reg [.mk none (.env 28) (.mov (.mv (.slot 4))), .mk none (.env 29) (.call 13 [(.env 28)]), .mk none (.env 27) (.mov (.mv (.env 29))), .mk none (.env 30) (.mov (.ext 0 (.env 27))), .mk none (.env 31) (.mov (.ext 1 (.env 27))), .mk none (.slot 5) (.mov (.mv (.env 30))), .mk none (.slot 6) (.mov (.mv (.env 31)))]) (.seq (.seq (.reg [.mk none (.env 32) (.mov (.mv (.slot 5))), .mk none (.env 33) (.mov (.bin .eql .ptr (.env 32) (.const .nilp))), .mk none (.env 34) (.mov (.mv (.env 33))), .mk (some ((.env 34), false)) (.env 35) (.mov (.mv (.slot 6))), .mk (some ((.env 34), false)) (.env 36) (.mov (.bin .neq .no (.env 35) (.const (.int .i64 0)))), .mk none (.slot 17) (.mov (.pick (.env 34) (.const (.bool true)) (.env 36)))]) (.cond (.slot 17) (.seq (.reg [.mk none (.slot 3) (.mov (.mv (.const (.bool false))))]) .ret) .skip)) (.seq (.reg [.mk none (.env 39) (.mov (.mv (.slot 5))), .mk none (.env 40) (.call 19 [(.env 39), (.const (.str [119, 48]))]), .mk none (.env 38) (.mov (.mv (.env 40))), .mk none (.env 41) (.mov (.ext 0 (.env 38))), .mk none (.env 42) (.mov (.ext 1 (.env 38))), .mk none (.env 43) (.mov (.ext 2 (.env 38))), .mk none (.slot 7) (.mov (.mv (.env 41))), .mk none (.env 11) (.mov (.mv (.env 42))), .mk none (.slot 8) (.mov (.mv (.env 43)))]) (.seq (.seq (.reg [.mk none (.env 44) (.mov (.mv (.slot 7))), .mk none (.env 45) (.mov (.bin .eql .ptr (.env 44) (.const .nilp))), .mk none (.env 46) (.mov (.mv (.env 45))), .mk (some ((.env 46), false)) (.env 47) (.mov (.mv (.slot 8))), .mk (some ((.env 46), false)) (.env 48) (.mov (.bin .neq .no (.env 47) (.const (.int .i64 0)))), .mk none (.slot 18) (.mov (.pick (.env 46) (.const (.bool true)) (.env 48)))]) (.cond (.slot 18) (.seq (.reg [.mk none (.slot 3) (.mov (.mv (.const (.bool false))))]) .ret) .skip)) (.seq (.reg [.mk none (.env 50) (.mov (.mv (.slot 5))), .mk none (.env 51) (.mov (.mv (.slot 2))), .mk none (.env 52) (.call 12 [(.env 51), (.const (.int .i64 0)), (.const (.int .i64 12))]), .mk none (.env 53) (.call 28 [(.env 50), (.env 52)])]) (.seq (.reg [.mk none (.slot 9) (.mov (.mv (.const .snil)))]) (.seq (.seq (.reg [.mk none (.slot 10) (.mov (.mv (.const (.int .i64 0))))]) (.block 0 (.loop (.seq (.seq (.reg [.mk none (.env 54) (.mov (.mv (.slot 10))), .mk none (.env 55) (.mov (.mv (.slot 0))), .mk none (.env 56) (.mov (.lenv (.env 55))), .mk none (.slot 19) (.mov (.bin .lss .no (.env 54) (.env 56)))]) (.cond (.slot 19) .skip (.exit 0))) (.seq (.block 1 (.seq (.reg [.mk none (.env 60) (.mov (.mv (.slot 0))), .mk none (.env 61) (.mov (.mv (.slot 10))), .mk none (.env 62) (.mov (.mv (.slot 10))), .mk none (.env 63) (.mov (.bin .add .no (.env 62) (.const (.int .i64 1)))), .mk none (.env 64) (.mov (.sl 1 (.env 60) (some (.env 61)) (some (.env 63)) none)), .mk none (.env 65) (.call 25 [(.env 64)]), .mk none (.env 66) (.mov (.lenv (.env 65))), .mk none (.slot 11) (.mov (.mv (.env 66)))]) (.seq (.reg [.mk none (.env 67) (.mov (.mv (.slot 7))), .mk none (.env 68) (.mov (.mv (.slot 0))), .mk none (.env 69) (.mov (.mv (.slot 10))), .mk none (.env 70) (.mov (.iaddr 1 (.env 68) (.env 69))), .mk none (.env 71) (.mov (.ld1 (.env 70))), .mk none (.env 72) (.call 20 [(.env 67), (.env 71)]), .mk none (.slot 12) (.mov (.mv (.env 72)))]) (.seq (.seq (.reg [.mk none (.env 73) (.mov (.mv (.slot 12))), .mk none (.slot 20) (.mov (.bin .eql .no (.env 73) (.const (.int .i64 0))))]) (.cond (.slot 20) (.reg [.mk none (.env 75) (.mov (.mv (.slot 9))), .mk none (.env 76) (.mov (.mv (.slot 0))), .mk none (.env 77) (.mov (.mv (.slot 10))), .mk none (.env 78) (.mov (.iaddr 1 (.env 76) (.env 77))), .mk none (.env 79) (.mov (.ld1 (.env 78))), .mk none (.env 80) (.eff (.bslice 1 1 [.snil] [(0, 1, (.env 79))])), .mk none (.env 81) (.eff (.append 1 24 (.env 75) (.env 80))), .mk none (.slot 9) (.mov (.mv (.env 81)))]) (.seq (.reg [.mk none (.env 82) (.mov (.mv (.slot 12))), .mk none (.env 83) (.mov (.bin .neq .no (.env 82) (.const (.int .i64 13)))), .mk none (.env 84) (.mov (.mv (.env 83))), .mk (some ((.env 84), false)) (.env 85) (.mov (.mv (.slot 5))), .mk (some ((.env 84), false)) (.env 86) (.call 29 [(.env 85)]), .mk (some ((.env 84), false)) (.env 87) (.mov (.notb (.env 86))), .mk (some ((.env 84), false)) (.env 88) (.mov (.mv (.env 87))), .mk (some ((.env 88), true)) (.env 89) (.mov (.mv (.slot 5))), .mk (some ((.env 88), true)) (.env 90) (.call 30 [(.env 89)]), .mk (some ((.env 88), true)) (.env 91) (.mov (.mv (.slot 11))), .mk (some ((.env 88), true)) (.env 92) (.mov (.bin .add .no (.env 90) (.env 91))), .mk (some ((.env 88), true)) (.env 93) (.mov (.mv (.slot 4))), .mk (some ((.env 88), true)) (.env 94) (.mov (.bin .leq .no (.env 92) (.env 93))), .mk (some ((.env 84), false)) (.env 95) (.mov (.pick (.env 88) (.env 94) (.const (.bool false)))), .mk none (.slot 21) (.mov (.pick (.env 84) (.const (.bool true)) (.env 95)))]) (.cond (.slot 21) (.seq (.reg [.mk none (.slot 3) (.mov (.mv (.const (.bool false))))]) .ret) .skip)))) (.seq (.reg [.mk none (.env 97) (.mov (.mv (.slot 7))), .mk none (.env 98) (.call 31 [(.env 97)]), .mk none (.env 99) (.mov (.mv (.slot 9))), .mk none (.env 100) (.mov (.lenv (.env 99))), .mk none (.env 101) (.mov (.bin .neq .no (.env 98) (.env 100))), .mk none (.env 102) (.mov (.mv (.env 101))), .mk (some ((.env 102), false)) (.env 103) (.mov (.mv (.slot 7))), .mk (some ((.env 102), false)) (.env 104) (.mov (.bld [.snil, .snil, (.bool false)] [])), .mk (some ((.env 102), false)) (.env 105) (.eff (.bslice 3 1 [.snil, .snil, (.bool false)] [(0, 3, (.env 104))])), .mk (some ((.env 102), false)) (.env 106) (.call 20 [(.env 103), (.env 105)]), .mk (some ((.env 102), false)) (.env 107) (.mov (.bin .neq .no (.env 106) (.const (.int .i64 3)))), .mk none (.slot 22) (.mov (.pick (.env 102) (.const (.bool true)) (.env 107)))]) (.cond (.slot 22) (.seq (.reg [.mk none (.slot 3) (.mov (.mv (.const (.bool false))))]) .ret) .skip)))))) (.reg [.mk none (.env 58) (.mov (.mv (.slot 10))), .mk none (.env 59) (.mov (.bin .add .no (.env 58) (.const (.int .i64 1)))), .mk none (.slot 10) (.mov (.mv (.env 59)))])))))) (.seq (.seq (.reg [.mk none (.env 109) (.mov (.mv (.slot 5))), .mk none (.slot 23) (.call 29 [(.env 109)])]) (.cond (.slot 23) (.seq (.reg [.mk none (.env 111) (.mov (.mv (.slot 5))), .mk none (.env 112) (.call 22 [(.env 111), (.const (.int .i64 0))])]) (.seq (.reg [.mk none (.env 114) (.mov (.mv (.slot 5))), .mk none (.env 115) (.call 19 [(.env 114), (.const (.str [119, 48]))]), .mk none (.env 113) (.mov (.mv (.env 115))), .mk none (.env 116) (.mov (.ext 0 (.env 113))), .mk none (.env 117) (.mov (.ext 1 (.env 113))), .mk none (.env 118) (.mov (.ext 2 (.env 113))), .mk none (.env 17) (.mov (.mv (.env 116))), .mk none (.slot 13) (.mov (.mv (.env 117))), .mk none (.slot 14) (.mov (.mv (.env 118)))]) (.seq (.reg [.mk none (.env 119) (.mov (.mv (.slot 14))), .mk none (.env 120) (.mov (.bin .eql .no (.env 119) (.const (.int .i64 0)))), .mk none (.env 121) (.mov (.mv (.env 120))), .mk (some ((.env 121), true)) (.env 122) (.mov (.mv (.slot 13))), .mk (some ((.env 121), true)) (.env 123) (.mov (.lenv (.env 122))), .mk (some ((.env 121), true)) (.env 124) (.mov (.mv (.slot 9))), .mk (some ((.env 121), true)) (.env 125) (.mov (.lenv (.env 124))), .mk (some ((.env 121), true)) (.env 126) (.mov (.bin .leq .no (.env 123) (.env 125))), .mk none (.env 127) (.mov (.pick (.env 121) (.env 126) (.const (.bool false)))), .mk none (.env 128) (.mov (.mv (.env 127))), .mk (some ((.env 128), true)) (.env 129) (.mov (.mv (.slot 13))), .mk (some ((.env 128), true)) (.env 130) (.mov (.mv (.slot 9))), .mk (some ((.env 128), true)) (.env 131) (.mov (.mv (.slot 13))), .mk (some ((.env 128), true)) (.env 132) (.mov (.lenv (.env 131))), .mk (some ((.env 128), true)) (.env 133) (.mov (.sl 1 (.env 130) none (some (.env 132)) none)), .mk (some ((.env 128), true)) (.env 134) (.call 23 [(.env 129), (.env 133)]), .mk none (.env 135) (.mov (.pick (.env 128) (.env 134) (.const (.bool false)))), .mk none (.env 136) (.mov (.mv (.env 135))), .mk (some ((.env 136), true)) (.env 137) (.call 24 []), .mk none (.env 138) (.mov (.pick (.env 136) (.env 137) (.const (.bool false)))), .mk none (.slot 3) (.mov (.mv (.env 138)))]) .ret))) .skip)) (.seq (.reg [.mk none (.env 140) (.mov (.mv (.slot 5))), .mk none (.env 141) (.call 19 [(.env 140), (.const (.str [119, 48]))]), .mk none (.env 139) (.mov (.mv (.env 141))), .mk none (.env 142) (.mov (.ext 0 (.env 139))), .mk none (.env 143) (.mov (.ext 1 (.env 139))), .mk none (.env 144) (.mov (.ext 2 (.env 139))), .mk none (.env 20) (.mov (.mv (.env 142))), .mk none (.slot 15) (.mov (.mv (.env 143))), .mk none (.slot 16) (.mov (.mv (.env 144)))]) (.seq (.reg [.mk none (.env 145) (.mov (.mv (.slot 16))), .mk none (.env 146) (.mov (.bin .eql .no (.env 145) (.const (.int .i64 0)))), .mk none (.env 147) (.mov (.mv (.env 146))), .mk (some ((.env 147), true)) (.env 148) (.mov (.mv (.slot 15))), .mk (some ((.env 147), true)) (.env 149) (.mov (.mv (.slot 9))), .mk (some ((.env 147), true)) (.env 150) (.call 23 [(.env 148), (.env 149)]), .mk none (.env 151) (.mov (.pick (.env 147) (.env 150) (.const (.bool false)))), .mk none (.env 152) (.mov (.mv (.env 151))), .mk (some ((.env 152), true)) (.env 153) (.call 24 []), .mk none (.env 154) (.mov (.pick (.env 152) (.env 153) (.const (.bool false)))), .mk none (.slot 3) (.mov (.mv (.env 154)))]) .ret))))))))))))), [.slot (.slot 3)]⟩
theorem W1.new' {N : Int} : openF (MD.new N) w0 = (.ok [], W1 w0 N 0 false [] 0) := open_new (by decide)
section
variable {E : Nat → Option (Ent MD)}
set_option maxHeartbeats 8000000 in
theorem wrefuses_ok (hE : ∀ f e, E f = some e → e.plain) (T : WaV E) (hW : E 12 = some (.bc b_Within)) (hA : E 28 = some (.nat (n_int i64ok MD.arm))) (hDn : E 29 = some (.nat n_down)) (hU : E 30 = some (.nat n_used)) (hlaw : E 6 = some (.bc b_WalRefuses)) {h : Hp MD} {va : AV} {a : List (List EM)} {lim0 arm0 : Int}
    (ha : Bats h va a (fun _ => True)) (hal : a.length ≤ maxLen) (ha2 : ∀ l ∈ a, l.length ≤ maxLen) (hli : I64 lim0) (har : I64 arm0) :
    WF (lim E) 6 [va, .int .i64 lim0, .int .i64 arm0] h fun r _ => r = .bool true := by
  refine wf_bc hE hlaw rfl ?_
  simp only [b_WalRefuses, List.map, getS]
  have hmx : (maxLen : Nat) = 9223372036854775807 := rfl
  repeat first|(refine BG ?_;first|(refine BH ?_;first|(refine BI ?_;refine BM ?_)|(refine BJ ?_;first|refine BN ?_|refine BO ?_)|refine BP ?_)|(refine BK ?_;first|refine BS rfl rfl ?_|refine BT rfl rfl ?_|refine BU rfl ?_)|(refine BL ?_;first|refine BQ ?_)|(refine BR ?_;try simp only [setS]))|refine AA ?_|refine AC ?_|refine AD ?_|refine AE ?_|refine AF rfl rfl ?_|refine AG rfl rfl ?_|refine AH ?_|refine AI ?_|refine AJ ?_|refine AK ?_|refine AL ?_|refine AM ?_|refine AN ?_|refine AO ?_|refine AP ?_|refine AQ rfl ?_|refine AR ?_|refine AS ?_|refine AT rfl ?_|refine AU rfl ?_
  refine wr_call_e rfl ((batches_ok hE T.toWaK ha (n := 8) (by omega) hal ha2).mono fun ra h1 ⟨k1, o1⟩ => ?_)
  have dA : Drawn ((a.take 8).map (keepL 5 20 30)) 8 := drawn
  generalize (a.take 8).map (keepL 5 20 30) = A at *
  have XA := (o1.bats (G := fun _ => True) (fun _ _ _ => trivial) (fun _ _ => trivial)).lt.on (G := fun k => k < h1.n) (fun _ q => q.2)
  have nA := dA.len
  clear o1
  repeat first|(refine BG ?_;first|(refine BH ?_;first|(refine BI ?_;refine BM ?_)|(refine BJ ?_;first|refine BN ?_|refine BO ?_)|refine BP ?_)|(refine BK ?_;first|refine BS rfl rfl ?_|refine BT rfl rfl ?_|refine BU rfl ?_)|(refine BL ?_;first|refine BQ ?_)|(refine BR ?_;try simp only [setS]))|refine AA ?_|refine AC ?_|refine AD ?_|refine AE ?_|refine AF rfl rfl ?_|refine AG rfl rfl ?_|refine AH ?_|refine AI ?_|refine AJ ?_|refine AK ?_|refine AL ?_|refine AM ?_|refine AN ?_|refine AO ?_|refine AP ?_|refine AQ rfl ?_|refine AR ?_|refine AS ?_|refine AT rfl ?_|refine AU rfl ?_
  refine wr_call_e rfl ((within_ok hE hW hli (by omega) (by omega) (by omega)).mono fun r h2 ⟨e2, e3⟩ => ?_)
  subst e2 e3
  have hN := withinF_in (n := lim0) (lo := 0) (hi := 300) (by omega)
  generalize withinF lim0 0 300 = N at *
  repeat first|(refine BG ?_;first|(refine BH ?_;first|(refine BI ?_;refine BM ?_)|(refine BJ ?_;first|refine BN ?_|refine BO ?_)|refine BP ?_)|(refine BK ?_;first|refine BS rfl rfl ?_|refine BT rfl rfl ?_|refine BU rfl ?_)|(refine BL ?_;first|refine BQ ?_)|(refine BR ?_;try simp only [setS]))|refine AA ?_|refine AC ?_|refine AD ?_|refine AE ?_|refine AF rfl rfl ?_|refine AG rfl rfl ?_|refine AH ?_|refine AI ?_|refine AJ ?_|refine AK ?_|refine AL ?_|refine AM ?_|refine AN ?_|refine AO ?_|refine AP ?_|refine AQ rfl ?_|refine AR ?_|refine AS ?_|refine AT rfl ?_|refine AU rfl ?_
  refine wr_call_e rfl ((w_new hE T.new (n := N) (by omega) (by omega)).mono fun r h3 ⟨e3, d3, k3, _⟩ => ?_)
  subst e3
  have hD := d3.lt
  repeat first|(refine BG ?_;first|(refine BH ?_;first|(refine BI ?_;refine BM ?_)|(refine BJ ?_;first|refine BN ?_|refine BO ?_)|refine BV (v_pnil rfl) ?_|refine BP ?_)|(refine BK ?_;first|refine BS rfl rfl ?_|refine BT rfl rfl ?_|refine BU rfl ?_)|(refine BL ?_;first|refine BQ ?_)|(refine BR ?_;try simp only [setS]))|refine AA ?_|refine AC ?_|refine AD ?_|refine AE ?_|refine AF rfl rfl ?_|refine AG rfl rfl ?_|refine AH ?_|refine AI ?_|refine AJ ?_|refine AK ?_|refine AL ?_|refine AM ?_|refine AN ?_|refine AO ?_|refine AP ?_|refine AQ rfl ?_|refine AR ?_|refine AS ?_|refine AT rfl ?_|refine AU rfl ?_
  refine wr_call_e rfl ((open_w1 hE T.toWaW d3 (Nat.zero_le _) (by decide) (by decide) (by rw [begin_new (by decide)]; exact Nat.zero_le _) W1.new').mono fun r h4 ⟨k4, d4, lg, m0, e4, g4, bx4, _⟩ => ?_)
  subst e4
  have K4 : Keep NoB h2 h4 := k3.own k4 (fun k q => by have q : k = h2.n := q; omega)
  repeat first|(refine BG ?_;first|(refine BH ?_;first|(refine BI ?_;refine BM ?_)|(refine BJ ?_;first|refine BN ?_|refine BO ?_)|refine BV (v_pnil rfl) ?_|refine BP ?_)|(refine BK ?_;first|refine BS rfl rfl ?_|refine BT rfl rfl ?_|refine BU rfl ?_)|(refine BL ?_;first|refine BQ ?_)|(refine BR ?_;try simp only [setS]))|refine AA ?_|refine AC ?_|refine AD ?_|refine AE ?_|refine AF rfl rfl ?_|refine AG rfl rfl ?_|refine AH ?_|refine AI ?_|refine AJ ?_|refine AK ?_|refine AL ?_|refine AM ?_|refine AN ?_|refine AO ?_|refine AP ?_|refine AQ rfl ?_|refine AR ?_|refine AS ?_|refine AT rfl ?_|refine AU rfl ?_
  refine wr_call_e rfl ((within_ok hE hW har (by omega) (by omega) (by omega)).mono fun r h5 ⟨e5, e6⟩ => ?_)
  subst e5 e6
  have hR := withinF_in (n := arm0) (lo := 0) (hi := 12) (by omega)
  generalize withinF arm0 0 12 = R at *
  repeat first|(refine BG ?_;first|(refine BH ?_;first|(refine BI ?_;refine BM ?_)|(refine BJ ?_;first|refine BN ?_|refine BO ?_)|refine BP ?_)|(refine BK ?_;first|refine BS rfl rfl ?_|refine BT rfl rfl ?_|refine BU rfl ?_)|(refine BL ?_;first|refine BQ ?_)|(refine BR ?_;try simp only [setS]))|refine AA ?_|refine AC ?_|refine AD ?_|refine AE ?_|refine AF rfl rfl ?_|refine AG rfl rfl ?_|refine AH ?_|refine AI ?_|refine AJ ?_|refine AK ?_|refine AL ?_|refine AM ?_|refine AN ?_|refine AO ?_|refine AP ?_|refine AQ rfl ?_|refine AR ?_|refine AS ?_|refine AT rfl ?_|refine AU rfl ?_
  refine wr_call_e rfl ((w_int hE hA d4 (by rw [W1.fl]; omega) (n := R) (by omega)).mono fun r h6 ⟨e6, d6, k6⟩ => ?_)
  subst e6
  rw [W1.arm hR.1] at d6
  have K6 : Keep NoB h2 h6 := K4.own k6 (fun k q => by have q : k = h2.n := q; omega)
  have hdg : h2.n < lg := by omega
  have bx6 := bx4.keep k6 (fun q => by have q : lg = h2.n := q; omega)
  obtain ⟨lo, hlo⟩ : ∃ lo, lo = h6.n := ⟨_, rfl⟩
  have hlg := bx6.lt
  rw [← hlo] at hlg
  repeat first|(refine BG ?_;first|(refine BH ?_;first|(refine BI ?_;refine BM ?_)|(refine BJ ?_;first|refine BN ?_|refine BO ?_)|refine BP ?_)|(refine BK ?_;first|refine BS rfl rfl ?_|refine BT rfl rfl ?_|refine BU rfl ?_)|(refine BL ?_;first|refine BQ ?_)|(refine BR ?_;try simp only [setS]))|refine AA ?_|refine AC ?_|refine AD ?_|refine AE ?_|refine AF rfl rfl ?_|refine AG rfl rfl ?_|refine AH ?_|refine AI ?_|refine AJ ?_|refine AK ?_|refine AL ?_|refine AM ?_|refine AN ?_|refine AO ?_|refine AP ?_|refine AQ rfl ?_|refine AR ?_|refine AS ?_|refine AT rfl ?_|refine AU rfl ?_
  refine wb_loop (fun n t hh => ∃ (i : Nat) (done : List (List EM)) (dv : AV) (ar : Int) (dn : Bool) (bs : List UInt8) (s11 s12 s19 s20 s21 s22 : AV), i ≤ A.length ∧ n = A.length - i ∧ Keep NoB h2 hh ∧ lo ≤ hh.n ∧ Ob hh h2.n (W1 w0 N ar dn bs 0) ∧ 0 ≤ ar ∧ (dn = true → ar = 0) ∧ (dn = false → bs = laidB done) ∧ bs.length ≤ 1000000 * i ∧ done.length ≤ i ∧
    (∀ l ∈ done, (mayB l = true ∧ nrm l) ∧ (batB l).length ≤ 1048576 ∧ l.length ≤ maxLen) ∧ OB hh dv done lo (fun k => k < h2.n) ∧ Bx hh lg [.ptr h2.n 0, .str w0, .int .i64 done.length] ∧
    t = [ra, .int .i64 lim0, .int .i64 arm0, .bool false, .int .i64 N, .ptr h2.n 0, .int .i64 0, .ptr lg 0, .int .i64 0, dv, .int .i64 i, s11, s12, .bot, .bot, .bot, .bot, .bool false, .bool false, s19, s20, s21, s22, .bot]) ?_ A.length _ _ ⟨0, [], .snil, R, false, [], _, _, _, _, _, _, by omega, by omega, K6, by omega, d6, hR.1, (fun q => by cases q), (fun _ => rfl), by simp, by simp, (fun l hl => by cases hl), OB.nil, bx6, rfl⟩
  clear K6 bx6 d6 k6 K4 bx4 d4 k4 d3 g4
  rintro n t hh ⟨i, done, dv, ar, dn, bs, s11, s12, s19, s20, s21, s22, hi, hn, K, hlh, d5, ha0, had, hbs, hbl, hdl, hdm, ob, bx5, rfl⟩
  have XA5 := XA.up K
  obtain ⟨cA, rsA⟩ := XA5.rs
  by_cases hlt : i < A.length
  · obtain ⟨l, he⟩ : ∃ l, A[i]? = some l := ⟨_, List.getElem?_eq_getElem hlt⟩
    obtain ⟨vsl, XS, sls⟩ := XA5.sub he
    obtain ⟨g, o, c, ef, pa, la⟩ := XA5.at he
    have hml := dA.may l (List.mem_of_getElem? he)
    have hbt := dA.bat l (List.mem_of_getElem? he)
    have hsh := dA.short l (List.mem_of_getElem? he)
    have hb2 := batB_le hml.1
    have hrl := recB_len (batB l)
    repeat first|(refine BG ?_;first|(refine BH ?_;first|(refine BI ?_;refine BM ?_)|(refine BJ ?_;first|refine BN ?_|refine BO ?_)|refine BV (rsA.lenv (by rfl)) ?_|refine BV (sls rfl rfl rfl) ?_|refine BP ?_)|(refine BK ?_;first|refine BS rfl rfl ?_|refine BT rfl rfl ?_|refine BU rfl ?_)|(refine BL ?_;first|refine BQ ?_)|(refine BR ?_;try simp only [setS]))|refine AA ?_|refine AC ?_|refine AD ?_|refine AE ?_|refine AF rfl rfl ?_|refine AG rfl rfl ?_|refine AH ?_|refine AI ?_|refine AJ ?_|refine AK ?_|refine AL ?_|refine AM ?_|refine AN ?_|refine AO ?_|refine AP ?_|refine AQ rfl ?_|refine AR ?_|refine AS ?_|refine AT rfl ?_|refine AU rfl ?_
    refine wr_call_e rfl ((laid_ok hE T.toWaL XS (by simp) (fun x hx => by rw [List.mem_singleton.1 hx]; exact ⟨hml.1, hsh⟩)).mono fun rl h7 ⟨⟨k7, p7⟩, o7⟩ => ?_)
    have e7 : laidB [l] = recB (batB l) := by simp [laidB]
    rw [e7] at o7
    have d7 := d5.up k7
    have bx7 := bx5.up k7
    have ob7 := ob.up k7
    have K7 := K.and k7
    have lc : ∀ {e : En} {t : List AV} {x : Od}, x.ev e t = .ptr g o → (Mv.ld1 x).ev e t h7 = some c := fun {_ _ _} hx => la k7 (fun _ _ q => q) hx
    repeat first|(refine BG ?_;first|(refine BH ?_;first|(refine BI ?_;refine BM ?_)|(refine BJ ?_;first|refine BN ?_|refine BO ?_)|refine BV (o7.rs.lenv (by rfl)) ?_|refine BV (pa rfl rfl) ?_|refine BV (lc rfl) ?_|refine BP ?_)|(refine BK ?_;first|refine BS rfl rfl ?_|refine BT rfl rfl ?_|refine BU rfl ?_)|(refine BL ?_;first|refine BQ ?_)|(refine BR ?_;try simp only [setS]))|refine AA ?_|refine AC ?_|refine AD ?_|refine AE ?_|refine AF rfl rfl ?_|refine AG rfl rfl ?_|refine AH ?_|refine AI ?_|refine AJ ?_|refine AK ?_|refine AL ?_|refine AM ?_|refine AN ?_|refine AO ?_|refine AP ?_|refine AQ rfl ?_|refine AR ?_|refine AS ?_|refine AT rfl ?_|refine AU rfl ?_
    refine wr_call_e rfl ((add_ok hE T.toWaW bx7 d7 (by rw [W1.fl]; omega) (by omega) (by omega) (by omega) (ef.up k7).ents (by omega) (fun _ => hbt)).mono fun r h8 q => ?_)
    unfold AddPost at q
    rw [if_pos hml.1] at q
    obtain ⟨ec, a', dn', b', hap, ha1, had1, hb1, hcs⟩ := W1.app (s := w0) (L := N) (b := bs) (sy := 0) ha0 had (recB (batB l))
    rw [hap] at q
    obtain ⟨e8, d8, bx8, k8⟩ := q
    simp only at e8 d8 bx8
    subst e8
    have K8 : Keep NoB h2 h8 := K7.own k8 (fun k q => by rcases q with q | q <;> omega)
    have n7 := k7.n
    have n8 := k8.n
    have hD8 := d8.lt
    have ob8 := ob7.keep k8 (fun k q1 q2 => by have := ob7.lo k q1; rcases q2 with q2 | q2 <;> omega) (fun k q1 _ q2 => by have q1 : k < h2.n := q1; rcases q2 with q2 | q2 <;> omega)
    have lc8 : ∀ {e : En} {t : List AV} {x : Od}, x.ev e t = .ptr g o → (Mv.ld1 x).ev e t h8 = some c := fun {_ _ _} hx => la (S := fun k => k = h2.n ∨ k = lg) (k7.any.trans k8 (fun _ _ q => q)) (fun k q1 q2 => by
      obtain ⟨_, hrA, hFA, _⟩ := XA5.out
      have := hFA k q1
      rcases q2 with q2 | q2 <;> omega) hx
    repeat first|(refine BG ?_;first|(refine BH ?_;first|(refine BI ?_;refine BM ?_)|(refine BJ ?_;first|refine BN ?_|refine BO ?_)|refine BP ?_)|(refine BK ?_;first|refine BS rfl rfl ?_|refine BT rfl rfl ?_|refine BU rfl ?_)|(refine BL ?_;first|refine BQ ?_)|(refine BR ?_;try simp only [setS]))|refine AA ?_|refine AC ?_|refine AD ?_|refine AE ?_|refine AF rfl rfl ?_|refine AG rfl rfl ?_|refine AH ?_|refine AI ?_|refine AJ ?_|refine AK ?_|refine AL ?_|refine AM ?_|refine AN ?_|refine AO ?_|refine AP ?_|refine AQ rfl ?_|refine AR ?_|refine AS ?_|refine AT rfl ?_|refine AU rfl ?_
    refine wb_mid (fun t' h' => ∃ (done' : List (List EM)) (dv' s20 s21 : AV), (dn' = false → b' = laidB done') ∧ done'.length ≤ i + 1 ∧ (∀ l ∈ done', (mayB l = true ∧ nrm l) ∧ (batB l).length ≤ 1048576 ∧ l.length ≤ maxLen) ∧ OB h' dv' done' lo (fun k => k < h2.n) ∧ Bx h' lg [.ptr h2.n 0, .str w0, .int .i64 done'.length] ∧
      Ob h' h2.n (W1 w0 N a' dn' b' 0) ∧ Keep NoB h2 h' ∧ lo ≤ h'.n ∧ t' = [ra, .int .i64 lim0, .int .i64 arm0, .bool false, .int .i64 N, .ptr h2.n 0, .int .i64 0, .ptr lg 0, .int .i64 0, dv', .int .i64 i, .int .i64 (recB (batB l)).length, .int .i64 ec, .bot, .bot, .bot, .bot, .bool false, .bool false, .bool true, s20, s21, s22, .bot]) ?_ ?_
    · rcases hcs with ⟨rfl, hdn1, hdn2, hb2⟩ | ⟨rfl, hdn1⟩ | ⟨rfl, hdn1, hdn2, hb2, hfull⟩
      · rw [if_pos rfl] at bx8
        obtain ⟨cs, p1, p2, p3⟩ := ob8.next (c := c) (l := l) ((((ef.up k7).lt).keep k8 (fun k q q2 => by have q := q.1; rcases q2 with q2 | q2 <;> omega)).on (fun k q => ⟨q.1, fun q2 => by have := ob8.lo k q2; have := q.1; omega⟩)) (by omega)
        have eo := ef.one
        repeat first|(refine BG ?_;first|(refine BH ?_;first|(refine BI ?_;refine BM ?_)|(refine BJ ?_;first|refine BN ?_|refine BO ?_)|refine BV (pa rfl rfl) ?_|refine BV (lc8 rfl) ?_|refine BP ?_)|(refine BK ?_;first|refine BS rfl rfl ?_|refine BT rfl rfl ?_|refine BU rfl ?_)|(refine BL ?_;first|refine BW (ef_bs1' rfl eo.1 eo.2) ?_|refine BQ ?_)|(refine BR ?_;try simp only [setS]))|refine AA ?_|refine AC ?_|refine AD ?_|refine AE ?_|refine AF rfl rfl ?_|refine AG rfl rfl ?_|refine AH ?_|refine AI ?_|refine AJ ?_|refine AK ?_|refine AL ?_|refine AM ?_|refine AN ?_|refine AO ?_|refine AP ?_|refine AQ rfl ?_|refine AR ?_|refine AS ?_|refine AT rfl ?_|refine AU rfl ?_
        refine wr_app_e rfl rfl p1 (by decide) p2 (by omega) (by omega) fun v' h' a1 a2 a3 => ?_
        obtain ⟨p4, p5⟩ := p3 v' h' a1 a2 a3
        have hlo8 := ob8.lo
        repeat first|(refine BG ?_;first|(refine BH ?_;first|(refine BI ?_;refine BM ?_)|(refine BJ ?_;first|refine BN ?_|refine BO ?_)|refine BP ?_)|(refine BK ?_;first|refine BS rfl rfl ?_|refine BT rfl rfl ?_|refine BU rfl ?_)|(refine BL ?_;first|refine BQ ?_)|(refine BR ?_;try simp only [setS]))|refine AA ?_|refine AC ?_|refine AD ?_|refine AE ?_|refine AF rfl rfl ?_|refine AG rfl rfl ?_|refine AH ?_|refine AI ?_|refine AJ ?_|refine AK ?_|refine AL ?_|refine AM ?_|refine AN ?_|refine AO ?_|refine AP ?_|refine AQ rfl ?_|refine AR ?_|refine AS ?_|refine AT rfl ?_|refine AU rfl ?_
        refine mid_norm ⟨done ++ [l], v', _, _, fun _ => ?_, by simp; omega, fun x hx => ?_, p4, ?_, d8.keep p5 (fun q => by have := hlo8 _ q; omega), K8.own p5 (fun k q => by have := hlo8 k q; omega), by have := p5.n; omega, rfl⟩
        · rw [hb2, hbs hdn2, laid_app]
          simp [laidB]
        · rcases List.mem_append.1 hx with hx | hx
          · exact hdm x hx
          · rw [List.mem_singleton.1 hx]
            exact ⟨hml, hbt, by omega⟩
        · rw [List.length_append, List.length_singleton]
          exact bx8.keep p5 (fun q => by have := hlo8 _ q; omega)
      · rw [if_neg (by decide)] at bx8
        subst hdn1
        repeat first|(refine BG ?_;first|(refine BH ?_;first|(refine BI ?_;refine BM ?_)|(refine BJ ?_;first|refine BN ?_|refine BO ?_)|refine BP ?_)|(refine BK ?_;first|refine BS rfl rfl ?_|refine BT rfl rfl ?_|refine BU rfl ?_)|(refine BL ?_;first|refine BQ ?_)|(refine BR ?_;try simp only [setS]))|refine AA ?_|refine AC ?_|refine AD ?_|refine AE ?_|refine AF rfl rfl ?_|refine AG rfl rfl ?_|refine AH ?_|refine AI ?_|refine AJ ?_|refine AK ?_|refine AL ?_|refine AM ?_|refine AN ?_|refine AO ?_|refine AP ?_|refine AQ rfl ?_|refine AR ?_|refine AS ?_|refine AT rfl ?_|refine AU rfl ?_
        refine wr_call_e rfl ((w_down hE hDn d8 (by rw [W1.fl]; omega)).mono fun r h9 ⟨e9, e10⟩ => ?_)
        subst e9 e10
        have ed : (W1 w0 N a' true b' 0).down = true := rfl
        rw [ed]
        repeat first|(refine BG ?_;first|(refine BH ?_;first|(refine BI ?_;refine BM ?_)|(refine BJ ?_;first|refine BN ?_|refine BO ?_)|refine BP ?_)|(refine BK ?_;first|refine BS rfl rfl ?_|refine BT rfl rfl ?_|refine BU rfl ?_)|(refine BL ?_;first|refine BQ ?_)|(refine BR ?_;try simp only [setS]))|refine AA ?_|refine AC ?_|refine AD ?_|refine AE ?_|refine AF rfl rfl ?_|refine AG rfl rfl ?_|refine AH ?_|refine AI ?_|refine AJ ?_|refine AK ?_|refine AL ?_|refine AM ?_|refine AN ?_|refine AO ?_|refine AP ?_|refine AQ rfl ?_|refine AR ?_|refine AS ?_|refine AT rfl ?_|refine AU rfl ?_
        exact mid_norm ⟨done, dv, _, _, (fun q => by cases q), by omega, hdm, ob8, bx8, d8, K8, by omega, rfl⟩
      · rw [if_neg (by decide)] at bx8
        subst hdn1
        repeat first|(refine BG ?_;first|(refine BH ?_;first|(refine BI ?_;refine BM ?_)|(refine BJ ?_;first|refine BN ?_|refine BO ?_)|refine BP ?_)|(refine BK ?_;first|refine BS rfl rfl ?_|refine BT rfl rfl ?_|refine BU rfl ?_)|(refine BL ?_;first|refine BQ ?_)|(refine BR ?_;try simp only [setS]))|refine AA ?_|refine AC ?_|refine AD ?_|refine AE ?_|refine AF rfl rfl ?_|refine AG rfl rfl ?_|refine AH ?_|refine AI ?_|refine AJ ?_|refine AK ?_|refine AL ?_|refine AM ?_|refine AN ?_|refine AO ?_|refine AP ?_|refine AQ rfl ?_|refine AR ?_|refine AS ?_|refine AT rfl ?_|refine AU rfl ?_
        refine wr_call_e rfl ((w_down hE hDn d8 (by rw [W1.fl]; omega)).mono fun r h9 ⟨e9, e10⟩ => ?_)
        subst e9 e10
        have ed : (W1 w0 N a' false b' 0).down = false := rfl
        rw [ed]
        repeat first|(refine BG ?_;first|(refine BH ?_;first|(refine BI ?_;refine BM ?_)|(refine BJ ?_;first|refine BN ?_|refine BO ?_)|refine BP ?_)|(refine BK ?_;first|refine BS rfl rfl ?_|refine BT rfl rfl ?_|refine BU rfl ?_)|(refine BL ?_;first|refine BQ ?_)|(refine BR ?_;try simp only [setS]))|refine AA ?_|refine AC ?_|refine AD ?_|refine AE ?_|refine AF rfl rfl ?_|refine AG rfl rfl ?_|refine AH ?_|refine AI ?_|refine AJ ?_|refine AK ?_|refine AL ?_|refine AM ?_|refine AN ?_|refine AO ?_|refine AP ?_|refine AQ rfl ?_|refine AR ?_|refine AS ?_|refine AT rfl ?_|refine AU rfl ?_
        refine wr_call_e rfl ((w_used hE hU d8 (by rw [W1.fl]; omega)).mono fun r h9 ⟨e9, e10⟩ => ?_)
        subst e9 e10
        rw [W1.used]
        subst hb2
        repeat first|(refine BG ?_;first|(refine BH ?_;first|(refine BI ?_;refine BM ?_)|(refine BJ ?_;first|refine BN ?_|refine BO ?_)|refine BP ?_)|(refine BK ?_;first|refine BS rfl rfl ?_|refine BT rfl rfl ?_|refine BU rfl ?_)|(refine BL ?_;first|refine BQ ?_)|(refine BR ?_;try simp only [setS]))|refine AA ?_|refine AC ?_|refine AD ?_|refine AE ?_|refine AF rfl rfl ?_|refine AG rfl rfl ?_|refine AH ?_|refine AI ?_|refine AJ ?_|refine AK ?_|refine AL ?_|refine AM ?_|refine AN ?_|refine AO ?_|refine AP ?_|refine AQ rfl ?_|refine AR ?_|refine AS ?_|refine AT rfl ?_|refine AU rfl ?_
        exact mid_norm ⟨done, dv, _, _, (fun _ => hbs hdn2), by omega, hdm, ob8, bx8, d8, K8, by omega, rfl⟩
    rintro t' h' ⟨done', dv', s20', s21', q1, q2, q3, q4, q5, q6, q7, q8, rfl⟩
    obtain ⟨cD, rD⟩ := q4.rs
    repeat first|(refine BG ?_;first|(refine BH ?_;first|(refine BI ?_;refine BM ?_)|(refine BJ ?_;first|refine BN ?_|refine BO ?_)|refine BP ?_)|(refine BK ?_;first|refine BS rfl rfl ?_|refine BT rfl rfl ?_|refine BU rfl ?_)|(refine BL ?_;first|refine BQ ?_)|(refine BR ?_;try simp only [setS]))|refine AA ?_|refine AC ?_|refine AD ?_|refine AE ?_|refine AF rfl rfl ?_|refine AG rfl rfl ?_|refine AH ?_|refine AI ?_|refine AJ ?_|refine AK ?_|refine AL ?_|refine AM ?_|refine AN ?_|refine AO ?_|refine AP ?_|refine AQ rfl ?_|refine AR ?_|refine AS ?_|refine AT rfl ?_|refine AU rfl ?_
    refine wr_call_e rfl ((count_ok hE T.toWaW q5).mono fun r h9 ⟨e9, e10⟩ => ?_)
    subst e9 e10
    have ky : Keep NoB h9 (h9.push (.rw [.snil, .snil, .bool false])) := Keep.push _ _ _
    repeat first|(refine BG ?_;first|(refine BH ?_;first|(refine BI ?_;refine BM ?_)|(refine BJ ?_;first|refine BN ?_|refine BO ?_)|refine BV (rD.lenv (by rfl)) ?_|refine BP ?_)|(refine BK ?_;first|refine BS rfl rfl ?_|refine BT rfl rfl ?_|refine BU rfl ?_)|(refine BL ?_;first|refine BW (ef_bsN rfl rfl rfl) ?_|refine BQ ?_)|(refine BR ?_;try simp only [setS]))|refine AA ?_|refine AC ?_|refine AD ?_|refine AE ?_|refine AF rfl rfl ?_|refine AG rfl rfl ?_|refine AH ?_|refine AI ?_|refine AJ ?_|refine AK ?_|refine AL ?_|refine AM ?_|refine AN ?_|refine AO ?_|refine AP ?_|refine AQ rfl ?_|refine AR ?_|refine AS ?_|refine AT rfl ?_|refine AU rfl ?_
    have ents : Ents (h9.push (.rw [.snil, .snil, .bool false])) (.slice 3 h9.n 0 1 (some 1)) [⟨[], [], false⟩] := ⟨[(.snil, .snil, false)], rs_push (n := 1) (z := 3) rfl, rfl, fun i q e q1 q2 => by
      cases i with
      | zero =>
        simp only [List.getElem?_cons_zero, Option.some.injEq] at q1 q2
        subst q1 q2
        exact ⟨rfl, ⟨rfl, rfl⟩, ⟨rfl, rfl⟩⟩
      | succ i => simp at q1⟩
    refine wr_call_e rfl ((add_ok hE T.toWaW (q5.up ky) (q6.up ky) (by rw [W1.fl]; omega) (by omega) (by omega) (by omega) ents (by decide) (fun q => by rw [empty_no] at q; cases q)).mono fun r h10 q => ?_)
    unfold AddPost at q
    rw [if_neg (by rw [empty_no]; decide)] at q
    obtain ⟨e11, k10⟩ := q
    subst e11
    have kk := ky.and k10
    repeat first|(refine BG ?_;first|(refine BH ?_;first|(refine BI ?_;refine BM ?_)|(refine BJ ?_;first|refine BN ?_|refine BO ?_)|refine BP ?_)|(refine BK ?_;first|refine BS rfl rfl ?_|refine BT rfl rfl ?_|refine BU rfl ?_)|(refine BL ?_;first|refine BQ ?_)|(refine BR ?_;try simp only [setS]))|refine AA ?_|refine AC ?_|refine AD ?_|refine AE ?_|refine AF rfl rfl ?_|refine AG rfl rfl ?_|refine AH ?_|refine AI ?_|refine AJ ?_|refine AK ?_|refine AL ?_|refine AM ?_|refine AN ?_|refine AO ?_|refine AP ?_|refine AQ rfl ?_|refine AR ?_|refine AS ?_|refine AT rfl ?_|refine AU rfl ?_
    rw [show ((i : Int) + 1) = ((i + 1 : Nat) : Int) by omega]
    exact round_norm (n - 1) (by omega) ⟨i + 1, done', dv', a', dn', b', _, _, _, _, _, _, by omega, by omega, q7.and kk, by have := kk.n; omega, q6.up kk, ha1, had1, q1, by omega, q2, q3, q4.up kk, q5.up kk, rfl⟩
  have e : i = A.length := by omega
  subst e
  have hD5 := d5.lt
  have XD : Bats hh dv done (fun k => k ≠ h2.n) := ob.bats (fun k q1 q2 q3 => by omega) (fun k q => by have q : k < h2.n := q; omega)
  have hdmm : ∀ l ∈ done, mayB l = true ∧ nrm l := fun l hl => (hdm l hl).1
  have hdmb : ∀ l ∈ done, (batB l).length ≤ 1048576 := fun l hl => (hdm l hl).2.1
  repeat first|(refine BG ?_;first|(refine BH ?_;first|(refine BI ?_;refine BM ?_)|(refine BJ ?_;first|refine BN ?_|refine BO ?_)|refine BV (rsA.lenv (by rfl)) ?_|refine BP ?_)|(refine BK ?_;first|refine BS rfl rfl ?_|refine BT rfl rfl ?_|refine BU rfl ?_)|(refine BL ?_;first|refine BQ ?_)|(refine BR ?_;try simp only [setS]))|refine AA ?_|refine AC ?_|refine AD ?_|refine AE ?_|refine AF rfl rfl ?_|refine AG rfl rfl ?_|refine AH ?_|refine AI ?_|refine AJ ?_|refine AK ?_|refine AL ?_|refine AM ?_|refine AN ?_|refine AO ?_|refine AP ?_|refine AQ rfl ?_|refine AR ?_|refine AS ?_|refine AT rfl ?_|refine AU rfl ?_
  refine wr_call_s rfl ((w_down hE hDn d5 (by rw [W1.fl]; omega)).mono fun r h9 ⟨e9, e10⟩ => ?_)
  subst e9 e10
  cases dn with
  | true =>
    have ed : (W1 w0 N ar true bs 0).down = true := rfl
    rw [ed]
    repeat first|(refine BG ?_;first|(refine BH ?_;first|(refine BI ?_;refine BM ?_)|(refine BJ ?_;first|refine BN ?_|refine BO ?_)|refine BP ?_)|(refine BK ?_;first|refine BS rfl rfl ?_|refine BT rfl rfl ?_|refine BU rfl ?_)|(refine BL ?_;first|refine BQ ?_)|(refine BR ?_;try simp only [setS]))|refine AA ?_|refine AC ?_|refine AD ?_|refine AE ?_|refine AF rfl rfl ?_|refine AG rfl rfl ?_|refine AH ?_|refine AI ?_|refine AJ ?_|refine AK ?_|refine AL ?_|refine AM ?_|refine AN ?_|refine AO ?_|refine AP ?_|refine AQ rfl ?_|refine AR ?_|refine AS ?_|refine AT rfl ?_|refine AU rfl ?_
    refine wr_call_e rfl ((w_int hE T.crash d5 (by rw [W1.fl]; omega) (n := 0) (by omega)).mono fun r h10 ⟨e10, d10, k10⟩ => ?_)
    subst e10
    have ec : (W1 w0 N ar true bs 0).crash 0 = W1 w0 N 0 false (laidB []) 0 := by rw [W1.crash]; simp [laidB]
    rw [ec] at d10
    have XD10 := XD.keep k10 (fun k q q2 => q q2)
    repeat first|(refine BG ?_;first|(refine BH ?_;first|(refine BI ?_;refine BM ?_)|(refine BJ ?_;first|refine BN ?_|refine BO ?_)|refine BP ?_)|(refine BK ?_;first|refine BS rfl rfl ?_|refine BT rfl rfl ?_|refine BU rfl ?_)|(refine BL ?_;first|refine BQ ?_)|(refine BR ?_;try simp only [setS]))|refine AA ?_|refine AC ?_|refine AD ?_|refine AE ?_|refine AF rfl rfl ?_|refine AG rfl rfl ?_|refine AH ?_|refine AI ?_|refine AJ ?_|refine AK ?_|refine AL ?_|refine AM ?_|refine AN ?_|refine AO ?_|refine AP ?_|refine AQ rfl ?_|refine AR ?_|refine AS ?_|refine AT rfl ?_|refine AU rfl ?_
    refine wr_call_e rfl ((open_w1 hE T.toWaW d10 (by rw [W1.fl]; omega) (by decide) (by decide) (by rw [W1.begin_]; exact Nat.zero_le _) (W1.whole' (ls := []) (fun l hl => by cases hl) (fun l hl => by cases hl))).mono fun r h11 ⟨k11, d11, lg2, mv, e11, g11, bx11, XM⟩ => ?_)
    subst e11
    have XD11 := XD10.keep k11 (fun k q q2 => q q2)
    obtain ⟨vs, XS, sls⟩ := XD11.sl (m := 0) (Nat.zero_le _)
    obtain ⟨cM, rM⟩ := XM.rs
    obtain ⟨cD, rD⟩ := XD11.rs
    have rM : RS h11 1 mv 0 cM := rM
    repeat first|(refine BG ?_;first|(refine BH ?_;first|(refine BI ?_;refine BM ?_)|(refine BJ ?_;first|refine BN ?_|refine BO ?_)|refine BV (rM.lenv (by rfl)) ?_|refine BV (rD.lenv (by rfl)) ?_|refine BV (sls rfl rfl) ?_|refine BP ?_)|(refine BK ?_;first|refine BS rfl rfl ?_|refine BT rfl rfl ?_|refine BU rfl ?_)|(refine BL ?_;first|refine BQ ?_)|(refine BR ?_;try simp only [setS]))|refine AA ?_|refine AC ?_|refine AD ?_|refine AE ?_|refine AF rfl rfl ?_|refine AG rfl rfl ?_|refine AH ?_|refine AI ?_|refine AJ ?_|refine AK ?_|refine AL ?_|refine AM ?_|refine AN ?_|refine AO ?_|refine AP ?_|refine AQ rfl ?_|refine AR ?_|refine AS ?_|refine AT rfl ?_|refine AU rfl ?_
    refine wr_call_e rfl ((w5same_ok hE T.toWaS XM XS (Nat.zero_le _) (fun l hl => by cases hl)).mono fun r h12 ⟨e12, e13⟩ => ?_)
    subst e12 e13
    rw [List.take_zero, eqLL_refl]
    repeat first|(refine BG ?_;first|(refine BH ?_;first|(refine BI ?_;refine BM ?_)|(refine BJ ?_;first|refine BN ?_|refine BO ?_)|refine BP ?_)|(refine BK ?_;first|refine BS rfl rfl ?_|refine BT rfl rfl ?_|refine BU rfl ?_)|(refine BL ?_;first|refine BQ ?_)|(refine BR ?_;try simp only [setS]))|refine AA ?_|refine AC ?_|refine AD ?_|refine AE ?_|refine AF rfl rfl ?_|refine AG rfl rfl ?_|refine AH ?_|refine AI ?_|refine AJ ?_|refine AK ?_|refine AL ?_|refine AM ?_|refine AN ?_|refine AO ?_|refine AP ?_|refine AQ rfl ?_|refine AR ?_|refine AS ?_|refine AT rfl ?_|refine AU rfl ?_
    refine wr_call_e rfl ((wf_true hE T.known).mono fun r h16 ⟨e16, e17⟩ => ?_)
    subst e16 e17
    repeat first|(refine BG ?_;first|(refine BH ?_;first|(refine BI ?_;refine BM ?_)|(refine BJ ?_;first|refine BN ?_|refine BO ?_)|refine BP ?_)|(refine BK ?_;first|refine BS rfl rfl ?_|refine BT rfl rfl ?_|refine BU rfl ?_)|(refine BL ?_;first|refine BQ ?_)|(refine BR ?_;try simp only [setS]))|refine AA ?_|refine AC ?_|refine AD ?_|refine AE ?_|refine AF rfl rfl ?_|refine AG rfl rfl ?_|refine AH ?_|refine AI ?_|refine AJ ?_|refine AK ?_|refine AL ?_|refine AM ?_|refine AN ?_|refine AO ?_|refine AP ?_|refine AQ rfl ?_|refine AR ?_|refine AS ?_|refine AT rfl ?_|refine AU rfl ?_
    rfl
  | false =>
    have ed : (W1 w0 N ar false bs 0).down = false := rfl
    rw [ed]
    have hbs := hbs rfl
    subst hbs
    repeat first|(refine BG ?_;first|(refine BH ?_;first|(refine BI ?_;refine BM ?_)|(refine BJ ?_;first|refine BN ?_|refine BO ?_)|refine BP ?_)|(refine BK ?_;first|refine BS rfl rfl ?_|refine BT rfl rfl ?_|refine BU rfl ?_)|(refine BL ?_;first|refine BQ ?_)|(refine BR ?_;try simp only [setS]))|refine AA ?_|refine AC ?_|refine AD ?_|refine AE ?_|refine AF rfl rfl ?_|refine AG rfl rfl ?_|refine AH ?_|refine AI ?_|refine AJ ?_|refine AK ?_|refine AL ?_|refine AM ?_|refine AN ?_|refine AO ?_|refine AP ?_|refine AQ rfl ?_|refine AR ?_|refine AS ?_|refine AT rfl ?_|refine AU rfl ?_
    refine wr_call_e rfl ((open_w1 hE T.toWaW d5 (by rw [W1.fl]; omega) (by decide) (by decide) (by rw [W1.begin_]; simp only; omega) (W1.whole' hdmm hdmb)).mono fun r h11 ⟨k11, d11, lg2, mv, e11, g11, bx11, XM⟩ => ?_)
    subst e11
    have XD11 := XD.keep k11 (fun k q q2 => q q2)
    repeat first|(refine BG ?_;first|(refine BH ?_;first|(refine BI ?_;refine BM ?_)|(refine BJ ?_;first|refine BN ?_|refine BO ?_)|refine BP ?_)|(refine BK ?_;first|refine BS rfl rfl ?_|refine BT rfl rfl ?_|refine BU rfl ?_)|(refine BL ?_;first|refine BQ ?_)|(refine BR ?_;try simp only [setS]))|refine AA ?_|refine AC ?_|refine AD ?_|refine AE ?_|refine AF rfl rfl ?_|refine AG rfl rfl ?_|refine AH ?_|refine AI ?_|refine AJ ?_|refine AK ?_|refine AL ?_|refine AM ?_|refine AN ?_|refine AO ?_|refine AP ?_|refine AQ rfl ?_|refine AR ?_|refine AS ?_|refine AT rfl ?_|refine AU rfl ?_
    refine wr_call_e rfl ((w5same_ok hE T.toWaS XM XD11 (by omega) (fun l hl => (hdm l hl).2.2)).mono fun r h12 ⟨e12, e13⟩ => ?_)
    subst e12 e13
    rw [eqLL_refl]
    repeat first|(refine BG ?_;first|(refine BH ?_;first|(refine BI ?_;refine BM ?_)|(refine BJ ?_;first|refine BN ?_|refine BO ?_)|refine BP ?_)|(refine BK ?_;first|refine BS rfl rfl ?_|refine BT rfl rfl ?_|refine BU rfl ?_)|(refine BL ?_;first|refine BQ ?_)|(refine BR ?_;try simp only [setS]))|refine AA ?_|refine AC ?_|refine AD ?_|refine AE ?_|refine AF rfl rfl ?_|refine AG rfl rfl ?_|refine AH ?_|refine AI ?_|refine AJ ?_|refine AK ?_|refine AL ?_|refine AM ?_|refine AN ?_|refine AO ?_|refine AP ?_|refine AQ rfl ?_|refine AR ?_|refine AS ?_|refine AT rfl ?_|refine AU rfl ?_
    refine wr_call_e rfl ((wf_true hE T.known).mono fun r h16 ⟨e16, e17⟩ => ?_)
    subst e16 e17
    repeat first|(refine BG ?_;first|(refine BH ?_;first|(refine BI ?_;refine BM ?_)|(refine BJ ?_;first|refine BN ?_|refine BO ?_)|refine BP ?_)|(refine BK ?_;first|refine BS rfl rfl ?_|refine BT rfl rfl ?_|refine BU rfl ?_)|(refine BL ?_;first|refine BQ ?_)|(refine BR ?_;try simp only [setS]))|refine AA ?_|refine AC ?_|refine AD ?_|refine AE ?_|refine AF rfl rfl ?_|refine AG rfl rfl ?_|refine AH ?_|refine AI ?_|refine AJ ?_|refine AK ?_|refine AL ?_|refine AM ?_|refine AN ?_|refine AO ?_|refine AP ?_|refine AQ rfl ?_|refine AR ?_|refine AS ?_|refine AT rfl ?_|refine AU rfl ?_
    rfl
end
end Am
end Go.Proofs.Ythgcdoahoechhaa
