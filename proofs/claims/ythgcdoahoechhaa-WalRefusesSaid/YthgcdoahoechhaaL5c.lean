/- WalCrashes: the law, walked. -/
import Derived.Test.YthgcdoahoechhaaMM
set_option linter.unusedVariables false
set_option linter.unusedSimpArgs false
namespace Go.Proofs.Ythgcdoahoechhaa
namespace Am
open Go.RowKit
set_option maxRecDepth 100000
def b_WalCrashes : BF := ⟨147, [0, 1, 2, 6, 7, 8, 10, 11, 12, 13, 14, 15, 16, 18, 19, 26, 38, 42, 51, 54, 58, 67, 119], (.seq (.reg [.mk none (.slot 3) (.mov (.mv (.const (.bool false))))]) (.seq (.reg [.mk none (.env 20) (.mov (.mv (.slot 0))), .mk none (.env 21) (.call 17 [(.env 20), (.const (.int .i64 6))]), .mk none (.env 22) (.mov (.mv (.slot 1))), .mk none (.env 23) (.call 17 [(.env 22), (.const (.int .i64 6))]), .mk none (.slot 0) (.mov (.mv (.env 21))), .mk none (.slot 1) (.mov (.mv (.env 23)))]) (.seq (.reg [.mk none (.env 24) (.call 18 []), .mk none (.slot 4) (.mov (.mv (.env 24)))]) (.seq (.seq (.reg [.mk none (.env 25) (.mov (.mv (.slot 4))), .mk none (.slot 15) (.mov (.bin .eql .ptr (.env 25) (.const .nilp)))]) (.cond (.slot 15) (.seq (.reg [.mk none (.slot 3) (.mov (.mv (.const (.bool false))))]) .ret) .skip)) (.seq (.reg [.mk none (.env 28) (.mov (.mv (.slot 4))), .mk none (.env 29) (.call 19 [(.env 28), (.const (.str [119, 48]))]), .mk none (.env 27) (.mov (.mv (.env 29))), .mk none (.env 30) (.mov (.ext 0 (.env 27))), .mk none (.env 31) (.mov (.ext 1 (.env 27))), .mk none (.env 32) (.mov (.ext 2 (.env 27))), .mk none (.slot 5) (.mov (.mv (.env 30))), .mk none (.env 9) (.mov (.mv (.env 31))), .mk none (.slot 6) (.mov (.mv (.env 32)))]) (.seq (.seq (.reg [.mk none (.env 33) (.mov (.mv (.slot 5))), .mk none (.env 34) (.mov (.bin .eql .ptr (.env 33) (.const .nilp))), .mk none (.env 35) (.mov (.mv (.env 34))), .mk (some ((.env 35), false)) (.env 36) (.mov (.mv (.slot 6))), .mk (some ((.env 35), false)) (.env 37) (.mov (.bin .neq .no (.env 36) (.const (.int .i64 0)))), .mk none (.slot 16) (.mov (.pick (.env 35) (.const (.bool true)) (.env 37)))]) (.cond (.slot 16) (.seq (.reg [.mk none (.slot 3) (.mov (.mv (.const (.bool false))))]) .ret) .skip)) (.seq (.seq (.reg [.mk none (.slot 7) (.mov (.mv (.const (.int .i64 0))))]) (.block 0 (.loop (.seq (.seq (.reg [.mk none (.env 39) (.mov (.mv (.slot 7))), .mk none (.env 40) (.mov (.mv (.slot 0))), .mk none (.env 41) (.mov (.lenv (.env 40))), .mk none (.slot 17) (.mov (.bin .lss .no (.env 39) (.env 41)))]) (.cond (.slot 17) .skip (.exit 0))) (.seq (.block 1 (.seq (.reg [.mk none (.env 45) (.mov (.mv (.slot 5))), .mk none (.env 46) (.mov (.mv (.slot 0))), .mk none (.env 47) (.mov (.mv (.slot 7))), .mk none (.env 48) (.mov (.iaddr 1 (.env 46) (.env 47))), .mk none (.env 49) (.mov (.ld1 (.env 48))), .mk none (.env 50) (.call 20 [(.env 45), (.env 49)]), .mk none (.slot 18) (.mov (.bin .neq .no (.env 50) (.const (.int .i64 0))))]) (.cond (.slot 18) (.seq (.reg [.mk none (.slot 3) (.mov (.mv (.const (.bool false))))]) .ret) .skip))) (.reg [.mk none (.env 43) (.mov (.mv (.slot 7))), .mk none (.env 44) (.mov (.bin .add .no (.env 43) (.const (.int .i64 1)))), .mk none (.slot 7) (.mov (.mv (.env 44)))])))))) (.seq (.seq (.reg [.mk none (.env 52) (.mov (.mv (.slot 5))), .mk none (.env 53) (.call 21 [(.env 52)]), .mk none (.slot 19) (.mov (.bin .neq .no (.env 53) (.const (.int .i64 0))))]) (.cond (.slot 19) (.seq (.reg [.mk none (.slot 3) (.mov (.mv (.const (.bool false))))]) .ret) .skip)) (.seq (.seq (.reg [.mk none (.slot 8) (.mov (.mv (.const (.int .i64 0))))]) (.block 2 (.loop (.seq (.seq (.reg [.mk none (.env 55) (.mov (.mv (.slot 8))), .mk none (.env 56) (.mov (.mv (.slot 1))), .mk none (.env 57) (.mov (.lenv (.env 56))), .mk none (.slot 20) (.mov (.bin .lss .no (.env 55) (.env 57)))]) (.cond (.slot 20) .skip (.exit 2))) (.seq (.block 3 (.seq (.reg [.mk none (.env 61) (.mov (.mv (.slot 5))), .mk none (.env 62) (.mov (.mv (.slot 1))), .mk none (.env 63) (.mov (.mv (.slot 8))), .mk none (.env 64) (.mov (.iaddr 1 (.env 62) (.env 63))), .mk none (.env 65) (.mov (.ld1 (.env 64))), .mk none (.env 66) (.call 20 [(.env 61), (.env 65)]), .mk none (.slot 21) (.mov (.bin .neq .no (.env 66) (.const (.int .i64 0))))]) (.cond (.slot 21) (.seq (.reg [.mk none (.slot 3) (.mov (.mv (.const (.bool false))))]) .ret) .skip))) (.reg [.mk none (.env 59) (.mov (.mv (.slot 8))), .mk none (.env 60) (.mov (.bin .add .no (.env 59) (.const (.int .i64 1)))), .mk none (.slot 8) (.mov (.mv (.env 60)))])))))) (.seq (.reg [.mk none (.env 68) (.mov (.mv (.slot 4))), .mk none (.env 69) (.mov (.mv (.slot 2))), .mk none (.env 70) (.call 22 [(.env 68), (.env 69)])]) (.seq (.reg [.mk none (.env 72) (.mov (.mv (.slot 4))), .mk none (.env 73) (.call 19 [(.env 72), (.const (.str [119, 48]))]), .mk none (.env 71) (.mov (.mv (.env 73))), .mk none (.env 74) (.mov (.ext 0 (.env 71))), .mk none (.env 75) (.mov (.ext 1 (.env 71))), .mk none (.env 76) (.mov (.ext 2 (.env 71))), .mk none (.slot 9) (.mov (.mv (.env 74))), .mk none (.slot 10) (.mov (.mv (.env 75))), .mk none (.slot 11) (.mov (.mv (.env 76)))]) (.seq (.reg [.mk none (.env 77) (.eff (.bslice 1 0 [.snil] [])), .mk none (.env 78) (.mov (.mv (.slot 0))), .mk none (.env 79) (.eff (.append 1 24 (.env 77) (.env 78))), .mk none (.env 80) (.mov (.mv (.slot 1))), .mk none (.env 81) (.eff (.append 1 24 (.env 79) (.env 80))), .mk none (.slot 12) (.mov (.mv (.env 81)))]) (.seq (.seq (.reg [.mk none (.env 82) (.mov (.mv (.slot 9))), .mk none (.env 83) (.mov (.bin .eql .ptr (.env 82) (.const .nilp))), .mk none (.env 84) (.mov (.mv (.env 83))), .mk (some ((.env 84), false)) (.env 85) (.mov (.mv (.slot 11))), .mk (some ((.env 84), false)) (.env 86) (.mov (.bin .neq .no (.env 85) (.const (.int .i64 0)))), .mk none (.env 87) (.mov (.pick (.env 84) (.const (.bool true)) (.env 86))), .mk none (.env 88) (.mov (.mv (.env 87))), .mk (some ((.env 88), false)) (.env 89) (.mov (.mv (.slot 10))), .mk (some ((.env 88), false)) (.env 90) (.mov (.lenv (.env 89))), .mk (some ((.env 88), false)) (.env 91) (.mov (.mv (.slot 0))), .mk (some ((.env 88), false)) (.env 92) (.mov (.lenv (.env 91))), .mk (some ((.env 88), false)) (.env 93) (.mov (.bin .lss .no (.env 90) (.env 92))), .mk none (.env 94) (.mov (.pick (.env 88) (.const (.bool true)) (.env 93))), .mk none (.env 95) (.mov (.mv (.env 94))), .mk (some ((.env 95), false)) (.env 96) (.mov (.mv (.slot 10))), .mk (some ((.env 95), false)) (.env 97) (.mov (.lenv (.env 96))), .mk (some ((.env 95), false)) (.env 98) (.mov (.mv (.slot 12))), .mk (some ((.env 95), false)) (.env 99) (.mov (.lenv (.env 98))), .mk (some ((.env 95), false)) (.env 100) (.mov (.bin .gtr .no (.env 97) (.env 99))), .mk none (.env 101) (.mov (.pick (.env 95) (.const (.bool true)) (.env 100))), .mk none (.env 102) (.mov (.mv (.env 101))), .mk (some ((.env 102), false)) (.env 103) (.mov (.mv (.slot 10))), .mk (some ((.env 102), false)) (.env 104) (.mov (.mv (.slot 12))), .mk (some ((.env 102), false)) (.env 105) (.mov (.mv (.slot 10))), .mk (some ((.env 102), false)) (.env 106) (.mov (.lenv (.env 105))), .mk (some ((.env 102), false)) (.env 107) (.mov (.sl 1 (.env 104) none (some (.env 106)) none)), .mk (some ((.env 102), false)) (.env 108) (.call 23 [(.env 103), (.env 107)]), .mk (some ((.env 102), false)) (.env 109) (.mov (.notb (.env 108))), .mk none (.env 110) (.mov (.pick (.env 102) (.const (.bool true)) (.env 109))), .mk none (.env 111) (.mov (.mv (.env 110))), .mk (some ((.env 111), false)) (.env 112) (.mov (.mv (.slot 9))), .mk (some ((.env 111), false)) (.env 113) (.eff (.bslice 1 4 [(.int .u8 0)] [(0, 1, (.const (.int .u8 109))), (1, 1, (.const (.int .u8 111))), (2, 1, (.const (.int .u8 114))), (3, 1, (.const (.int .u8 101)))])), .mk (some ((.env 111), false)) (.env 114) (.eff (.mark (.env 113))), .mk (some ((.env 111), false)) (.env 115) (.mov (.bld [.snil, .snil, (.bool false)] [(0, 1, (.env 114))])), .mk (some ((.env 111), false)) (.env 116) (.eff (.bslice 3 1 [.snil, .snil, (.bool false)] [(0, 3, (.env 115))])), .mk (some ((.env 111), false)) (.env 117) (.call 20 [(.env 112), (.env 116)]), .mk (some ((.env 111), false)) (.env 118) (.mov (.bin .neq .no (.env 117) (.const (.int .i64 0)))), .mk none (.slot 22) (.mov (.pick (.env 111) (.const (.bool true)) (.env 118)))]) (.cond (.slot 22) (.seq (.reg [.mk none (.slot 3) (.mov (.mv (.const (.bool false))))]) .ret) .skip)) (.seq (.reg [.mk none (.env 121) (.mov (.mv (.slot 4))), .mk none (.env 122) (.call 19 [(.env 121), (.const (.str [119, 48]))]), .mk none (.env 120) (.mov (.mv (.env 122))), .mk none (.env 123) (.mov (.ext 0 (.env 120))), .mk none (.env 124) (.mov (.ext 1 (.env 120))), .mk none (.env 125) (.mov (.ext 2 (.env 120))), .mk none (.env 17) (.mov (.mv (.env 123))), .mk none (.slot 13) (.mov (.mv (.env 124))), .mk none (.slot 14) (.mov (.mv (.env 125)))]) (.seq (.reg [.mk none (.env 126) (.mov (.mv (.slot 14))), .mk none (.env 127) (.mov (.bin .eql .no (.env 126) (.const (.int .i64 0)))), .mk none (.env 128) (.mov (.mv (.env 127))), .mk (some ((.env 128), true)) (.env 129) (.mov (.mv (.slot 13))), .mk (some ((.env 128), true)) (.env 130) (.mov (.lenv (.env 129))), .mk (some ((.env 128), true)) (.env 131) (.mov (.mv (.slot 10))), .mk (some ((.env 128), true)) (.env 132) (.mov (.lenv (.env 131))), .mk (some ((.env 128), true)) (.env 133) (.mov (.bin .add .no (.env 132) (.const (.int .i64 1)))), .mk (some ((.env 128), true)) (.env 134) (.mov (.bin .eql .no (.env 130) (.env 133))), .mk none (.env 135) (.mov (.pick (.env 128) (.env 134) (.const (.bool false)))), .mk none (.env 136) (.mov (.mv (.env 135))), .mk (some ((.env 136), true)) (.env 137) (.mov (.mv (.slot 13))), .mk (some ((.env 136), true)) (.env 138) (.mov (.mv (.slot 10))), .mk (some ((.env 136), true)) (.env 139) (.mov (.lenv (.env 138))), .mk (some ((.env 136), true)) (.env 140) (.mov (.sl 1 (.env 137) none (some (.env 139)) none)), .mk (some ((.env 136), true)) (.env 141) (.mov (.mv (.slot 10))), .mk (some ((.env 136), true)) (.env 142) (.call 23 [(.env 140), (.env 141)]), .mk none (.env 143) (.mov (.pick (.env 136) (.env 142) (.const (.bool false)))), .mk none (.env 144) (.mov (.mv (.env 143))), .mk (some ((.env 144), true)) (.env 145) (.call 24 []), .mk none (.env 146) (.mov (.pick (.env 144) (.env 145) (.const (.bool false)))), .mk none (.slot 3) (.mov (.mv (.env 146)))]) .ret))))))))))))))), [.slot (.slot 3)]⟩
theorem v_bld1of3 {e : En} {t : List AV} {h : Hp MD} {z0 z1 z2 : AV} {x : Od} {a : AV} (hx : x.ev e t = a) (ha : cellsOf a = some [a]) : (Mv.bld [z0, z1, z2] [(0, 1, x)]).ev e t h = some (.agg [a, z1, z2]) := by
  simp only [Mv.ev, List.map, hx, fillA, ha]
  rfl
theorem ef_mark {e : En} {t : List AV} {h : Hp MD} {x : Od} {g : Nat} {l : List AV} (hx : x.ev e t = .slice 1 g 0 4 (some 4)) (hg : h.get g = some (.rw l)) : (Ef.mark x).ev e t h = some (.slice 1 g 0 4 (some 4), h.put g (.rw l)) := by
  simp only [Ef.ev, hx, hg]
  rfl
def w0 : List UInt8 := [119, 48]
def moreL : List EM := [⟨[109, 111, 114, 101], [], false⟩]
theorem more_may : mayB moreL = true := by decide
theorem more_nrm : nrm moreL := fun e he hg => by
  simp only [moreL, List.mem_singleton] at he
  subst he
  cases hg
theorem more_len : (batB moreL).length ≤ 100 := by decide
theorem laid_app (a b : List (List EM)) : laidB (a ++ b) = laidB a ++ laidB b := by unfold laidB; exact List.flatMap_append
theorem laid_le {ls : List (List EM)} (i : Nat) : (laidB (ls.take i)).length ≤ (laidB ls).length := by
  have e : laidB ls = laidB (ls.take i) ++ laidB (ls.drop i) := by rw [← laid_app, List.take_append_drop]
  rw [e, List.length_append]
  omega
section
variable {E : Nat → Option (Ent MD)}
set_option maxHeartbeats 8000000 in
theorem wcrashes_ok (hE : ∀ f e, E f = some e → e.plain) (T : WaV E) (hlaw : E 4 = some (.bc b_WalCrashes)) {h : Hp MD} {va vb : AV} {a b : List (List EM)} {keep : Int}
    (ha : Bats h va a (fun _ => True)) (hal : a.length ≤ maxLen) (ha2 : ∀ l ∈ a, l.length ≤ maxLen) (hb : Bats h vb b (fun _ => True)) (hbl : b.length ≤ maxLen) (hb2 : ∀ l ∈ b, l.length ≤ maxLen) (hkeep : I64 keep) :
    WF (lim E) 4 [va, vb, .int .i64 keep] h fun r _ => r = .bool true := by
  refine wf_bc hE hlaw rfl ?_
  simp only [b_WalCrashes, List.map, getS]
  have hmx : (maxLen : Nat) = 9223372036854775807 := rfl
  repeat first|(refine BG ?_;first|(refine BH ?_;first|(refine BI ?_;refine BM ?_)|(refine BJ ?_;first|refine BN ?_|refine BO ?_)|refine BP ?_)|(refine BK ?_;first|refine BS rfl rfl ?_|refine BT rfl rfl ?_|refine BU rfl ?_)|(refine BL ?_;first|refine BQ ?_)|(refine BR ?_;try simp only [setS]))|refine AA ?_|refine AC ?_|refine AD ?_|refine AE ?_|refine AF rfl rfl ?_|refine AG rfl rfl ?_|refine AH ?_|refine AI ?_|refine AJ ?_|refine AK ?_|refine AL ?_|refine AM ?_|refine AN ?_|refine AO ?_|refine AP ?_|refine AQ rfl ?_|refine AR ?_|refine AS ?_|refine AT rfl ?_|refine AU rfl ?_
  refine wr_call_e rfl ((batches_ok hE T.toWaK ha (n := 6) (by omega) hal ha2).mono fun ra h1 ⟨k1, o1⟩ => ?_)
  have dA : Drawn ((a.take 6).map (keepL 5 20 30)) 6 := drawn
  generalize (a.take 6).map (keepL 5 20 30) = A at *
  repeat first|(refine BG ?_;first|(refine BH ?_;first|(refine BI ?_;refine BM ?_)|(refine BJ ?_;first|refine BN ?_|refine BO ?_)|refine BP ?_)|(refine BK ?_;first|refine BS rfl rfl ?_|refine BT rfl rfl ?_|refine BU rfl ?_)|(refine BL ?_;first|refine BQ ?_)|(refine BR ?_;try simp only [setS]))|refine AA ?_|refine AC ?_|refine AD ?_|refine AE ?_|refine AF rfl rfl ?_|refine AG rfl rfl ?_|refine AH ?_|refine AI ?_|refine AJ ?_|refine AK ?_|refine AL ?_|refine AM ?_|refine AN ?_|refine AO ?_|refine AP ?_|refine AQ rfl ?_|refine AR ?_|refine AS ?_|refine AT rfl ?_|refine AU rfl ?_
  refine wr_call_e rfl ((batches_ok hE T.toWaK (hb.up k1) (n := 6) (by omega) hbl hb2).mono fun rb h2 ⟨k2, o2⟩ => ?_)
  have dB : Drawn ((b.take 6).map (keepL 5 20 30)) 6 := drawn
  generalize (b.take 6).map (keepL 5 20 30) = B at *
  have XA := ((o1.bats (G := fun _ => True) (fun _ _ _ => trivial) (fun _ _ => trivial)).up k2).lt.on (G := fun k => k < h2.n) (fun _ q => q.2)
  have XB := (o2.bats (G := fun _ => True) (fun _ _ _ => trivial) (fun _ _ => trivial)).lt.on (G := fun k => k < h2.n) (fun _ q => q.2)
  have lA := dA.laid
  have lB := dB.laid
  have nA := dA.len
  have nB := dB.len
  clear o1 o2
  repeat first|(refine BG ?_;first|(refine BH ?_;first|(refine BI ?_;refine BM ?_)|(refine BJ ?_;first|refine BN ?_|refine BO ?_)|refine BP ?_)|(refine BK ?_;first|refine BS rfl rfl ?_|refine BT rfl rfl ?_|refine BU rfl ?_)|(refine BL ?_;first|refine BQ ?_)|(refine BR ?_;try simp only [setS]))|refine AA ?_|refine AC ?_|refine AD ?_|refine AE ?_|refine AF rfl rfl ?_|refine AG rfl rfl ?_|refine AH ?_|refine AI ?_|refine AJ ?_|refine AK ?_|refine AL ?_|refine AM ?_|refine AN ?_|refine AO ?_|refine AP ?_|refine AQ rfl ?_|refine AR ?_|refine AS ?_|refine AT rfl ?_|refine AU rfl ?_
  refine wr_call_e rfl ((w5fresh_ok hE T).mono fun r h3 ⟨e3, d3, k3⟩ => ?_)
  subst e3
  have hD := d3.lt
  repeat first|(refine BG ?_;first|(refine BH ?_;first|(refine BI ?_;refine BM ?_)|(refine BJ ?_;first|refine BN ?_|refine BO ?_)|refine BV (v_pnil rfl) ?_|refine BP ?_)|(refine BK ?_;first|refine BS rfl rfl ?_|refine BT rfl rfl ?_|refine BU rfl ?_)|(refine BL ?_;first|refine BQ ?_)|(refine BR ?_;try simp only [setS]))|refine AA ?_|refine AC ?_|refine AD ?_|refine AE ?_|refine AF rfl rfl ?_|refine AG rfl rfl ?_|refine AH ?_|refine AI ?_|refine AJ ?_|refine AK ?_|refine AL ?_|refine AM ?_|refine AN ?_|refine AO ?_|refine AP ?_|refine AQ rfl ?_|refine AR ?_|refine AS ?_|refine AT rfl ?_|refine AU rfl ?_
  refine wr_call_e rfl ((open_w1 hE T.toWaW d3 (by decide) (by decide) (by decide) (by rw [begin_new (by decide)]; decide) (open_new (s := w0) (by decide))).mono fun r h4 ⟨k4, d4, lg, m0, e4, g4, bx4, _⟩ => ?_)
  subst e4
  have K4 : Keep NoB h2 h4 := k3.own k4 (fun k q => by have q : k = h2.n := q; omega)
  have n3 := k3.n
  have hdg : h2.n ≠ lg := by omega
  repeat first|(refine BG ?_;first|(refine BH ?_;first|(refine BI ?_;refine BM ?_)|(refine BJ ?_;first|refine BN ?_|refine BO ?_)|refine BV (v_pnil rfl) ?_|refine BP ?_)|(refine BK ?_;first|refine BS rfl rfl ?_|refine BT rfl rfl ?_|refine BU rfl ?_)|(refine BL ?_;first|refine BQ ?_)|(refine BR ?_;try simp only [setS]))|refine AA ?_|refine AC ?_|refine AD ?_|refine AE ?_|refine AF rfl rfl ?_|refine AG rfl rfl ?_|refine AH ?_|refine AI ?_|refine AJ ?_|refine AK ?_|refine AL ?_|refine AM ?_|refine AN ?_|refine AO ?_|refine AP ?_|refine AQ rfl ?_|refine AR ?_|refine AS ?_|refine AT rfl ?_|refine AU rfl ?_
  refine wb_loop (fun n t hh => ∃ (i : Nat) (s17 s18 : AV), i ≤ A.length ∧ n = A.length - i ∧ Keep NoB h2 hh ∧ lg < hh.n ∧ Ob hh h2.n (W1 w0 16777216 0 false (laidB (A.take i)) 0) ∧ Bx hh lg [.ptr h2.n 0, .str w0, .int .i64 i] ∧
    t = [ra, rb, .int .i64 keep, .bool false, .ptr h2.n 0, .ptr lg 0, .int .i64 0, .int .i64 i, .bot, .bot, .bot, .bot, .bot, .bot, .bot, .bool false, .bool false, s17, s18, .bot, .bot, .bot, .bot]) ?_ A.length _ _ ⟨0, _, _, by omega, by omega, K4, bx4.lt, d4, bx4, rfl⟩
  rintro n t hh ⟨i, s17, s18, hi, hn, K, hlg, d5, bx5, rfl⟩
  have XA5 := XA.up K
  have XB5 := XB.up K
  obtain ⟨cA, rsA⟩ := XA5.rs
  have kup : ∀ {S : Nat → Prop} {hh h' : Hp MD}, Keep NoB h2 hh → Keep (fun k => k = h2.n ∨ k = lg) hh h' → Keep NoB h2 h' := fun a b => a.own b (fun k q => by rcases q with q | q <;> omega)
  by_cases hlt : i < A.length
  · obtain ⟨l, he⟩ : ∃ l, A[i]? = some l := ⟨_, List.getElem?_eq_getElem hlt⟩
    obtain ⟨g, o, c, ef, pa, la⟩ := XA5.at he
    have lc : ∀ {e : En} {t : List AV} {x : Od}, x.ev e t = .ptr g o → (Mv.ld1 x).ev e t hh = some c := fun {_ _ _} hx => la (Keep.refl NoB hh) (fun _ _ q => q) hx
    have hml := dA.may l (List.mem_of_getElem? he)
    have hbl := dA.bat l (List.mem_of_getElem? he)
    have hls := laidB_s he
    have hle := laid_le (ls := A) (i + 1)
    have hls2 := congrArg List.length hls
    rw [List.length_append] at hls2
    repeat first|(refine BG ?_;first|(refine BH ?_;first|(refine BI ?_;refine BM ?_)|(refine BJ ?_;first|refine BN ?_|refine BO ?_)|refine BV (rsA.lenv (by rfl)) ?_|refine BV (pa rfl rfl) ?_|refine BV (lc rfl) ?_|refine BP ?_)|(refine BK ?_;first|refine BS rfl rfl ?_|refine BT rfl rfl ?_|refine BU rfl ?_)|(refine BL ?_;first|refine BQ ?_)|(refine BR ?_;try simp only [setS]))|refine AA ?_|refine AC ?_|refine AD ?_|refine AE ?_|refine AF rfl rfl ?_|refine AG rfl rfl ?_|refine AH ?_|refine AI ?_|refine AJ ?_|refine AK ?_|refine AL ?_|refine AM ?_|refine AN ?_|refine AO ?_|refine AP ?_|refine AQ rfl ?_|refine AR ?_|refine AS ?_|refine AT rfl ?_|refine AU rfl ?_
    refine wr_call_e rfl ((add_w1 hE T.toWaW bx5 d5 hdg (by omega) (by omega) ef.ents hml.1 hbl (by omega)).mono fun r h6 ⟨e6, d6, bx6, k6⟩ => ?_)
    subst e6
    repeat first|(refine BG ?_;first|(refine BH ?_;first|(refine BI ?_;refine BM ?_)|(refine BJ ?_;first|refine BN ?_|refine BO ?_)|refine BP ?_)|(refine BK ?_;first|refine BS rfl rfl ?_|refine BT rfl rfl ?_|refine BU rfl ?_)|(refine BL ?_;first|refine BQ ?_)|(refine BR ?_;try simp only [setS]))|refine AA ?_|refine AC ?_|refine AD ?_|refine AE ?_|refine AF rfl rfl ?_|refine AG rfl rfl ?_|refine AH ?_|refine AI ?_|refine AJ ?_|refine AK ?_|refine AL ?_|refine AM ?_|refine AN ?_|refine AO ?_|refine AP ?_|refine AQ rfl ?_|refine AR ?_|refine AS ?_|refine AT rfl ?_|refine AU rfl ?_
    rw [show ((i : Int) + 1) = ((i + 1 : Nat) : Int) by omega] at bx6 ⊢
    exact round_norm (n - 1) (by omega) ⟨i + 1, _, _, by omega, by omega, kup (S := NoB) K k6, Nat.lt_of_lt_of_le hlg k6.n, by rw [hls]; exact d6, bx6, rfl⟩
  have e : i = A.length := by omega
  subst e
  rw [List.take_length] at d5
  repeat first|(refine BG ?_;first|(refine BH ?_;first|(refine BI ?_;refine BM ?_)|(refine BJ ?_;first|refine BN ?_|refine BO ?_)|refine BV (rsA.lenv (by rfl)) ?_|refine BP ?_)|(refine BK ?_;first|refine BS rfl rfl ?_|refine BT rfl rfl ?_|refine BU rfl ?_)|(refine BL ?_;first|refine BQ ?_)|(refine BR ?_;try simp only [setS]))|refine AA ?_|refine AC ?_|refine AD ?_|refine AE ?_|refine AF rfl rfl ?_|refine AG rfl rfl ?_|refine AH ?_|refine AI ?_|refine AJ ?_|refine AK ?_|refine AL ?_|refine AM ?_|refine AN ?_|refine AO ?_|refine AP ?_|refine AQ rfl ?_|refine AR ?_|refine AS ?_|refine AT rfl ?_|refine AU rfl ?_
  refine wr_call_e rfl ((wsync_ok hE T.toWaW bx5 d5 (by rw [W1.fl]; omega)).mono fun r h6 ⟨e6, d6, k6⟩ => ?_)
  rw [W1.sync] at e6 d6
  subst e6
  have bx6 := bx5.keep k6 (fun q => hdg q.symm)
  have K6 : Keep NoB h2 h6 := K.own k6 (fun k q => by have q : k = h2.n := q; omega)
  have hlg6 := Nat.lt_of_lt_of_le hlg k6.n
  clear XA5 XB5 rsA d5 bx5 d4 bx4 d3
  repeat first|(refine BG ?_;first|(refine BH ?_;first|(refine BI ?_;refine BM ?_)|(refine BJ ?_;first|refine BN ?_|refine BO ?_)|refine BP ?_)|(refine BK ?_;first|refine BS rfl rfl ?_|refine BT rfl rfl ?_|refine BU rfl ?_)|(refine BL ?_;first|refine BQ ?_)|(refine BR ?_;try simp only [setS]))|refine AA ?_|refine AC ?_|refine AD ?_|refine AE ?_|refine AF rfl rfl ?_|refine AG rfl rfl ?_|refine AH ?_|refine AI ?_|refine AJ ?_|refine AK ?_|refine AL ?_|refine AM ?_|refine AN ?_|refine AO ?_|refine AP ?_|refine AQ rfl ?_|refine AR ?_|refine AS ?_|refine AT rfl ?_|refine AU rfl ?_
  refine wb_loop (fun n t hh => ∃ (i : Nat) (s20 s21 : AV), i ≤ B.length ∧ n = B.length - i ∧ Keep NoB h2 hh ∧ lg < hh.n ∧ Ob hh h2.n (W1 w0 16777216 0 false (laidB A ++ laidB (B.take i)) (laidB A).length) ∧ Bx hh lg [.ptr h2.n 0, .str w0, .int .i64 ((A.length : Int) + i)] ∧
    t = [ra, rb, .int .i64 keep, .bool false, .ptr h2.n 0, .ptr lg 0, .int .i64 0, .int .i64 A.length, .int .i64 i, .bot, .bot, .bot, .bot, .bot, .bot, .bool false, .bool false, .bool false, s18, .bool false, s20, s21, .bot]) ?_ B.length _ _ ⟨0, _, _, by omega, by omega, K6, hlg6, by simpa [laidB] using d6, by simpa using bx6, rfl⟩
  clear K6 K hlg hlg6 bx6 d6 k6
  rintro n t hh ⟨i, s20, s21, hi, hn, K, hlg, d5, bx5, rfl⟩
  have XA5 := XA.up K
  have XB5 := XB.up K
  obtain ⟨cA, rsA⟩ := XA5.rs
  obtain ⟨cB, rsB⟩ := XB5.rs
  by_cases hlt : i < B.length
  · obtain ⟨l, he⟩ : ∃ l, B[i]? = some l := ⟨_, List.getElem?_eq_getElem hlt⟩
    obtain ⟨g, o, c, ef, pa, la⟩ := XB5.at he
    have lc : ∀ {e : En} {t : List AV} {x : Od}, x.ev e t = .ptr g o → (Mv.ld1 x).ev e t hh = some c := fun {_ _ _} hx => la (Keep.refl NoB hh) (fun _ _ q => q) hx
    have hml := dB.may l (List.mem_of_getElem? he)
    have hbl := dB.bat l (List.mem_of_getElem? he)
    have hls := laidB_s he
    have hle := laid_le (ls := B) (i + 1)
    have hls2 := congrArg List.length hls
    rw [List.length_append] at hls2
    repeat first|(refine BG ?_;first|(refine BH ?_;first|(refine BI ?_;refine BM ?_)|(refine BJ ?_;first|refine BN ?_|refine BO ?_)|refine BV (rsB.lenv (by rfl)) ?_|refine BV (pa rfl rfl) ?_|refine BV (lc rfl) ?_|refine BP ?_)|(refine BK ?_;first|refine BS rfl rfl ?_|refine BT rfl rfl ?_|refine BU rfl ?_)|(refine BL ?_;first|refine BQ ?_)|(refine BR ?_;try simp only [setS]))|refine AA ?_|refine AC ?_|refine AD ?_|refine AE ?_|refine AF rfl rfl ?_|refine AG rfl rfl ?_|refine AH ?_|refine AI ?_|refine AJ ?_|refine AK ?_|refine AL ?_|refine AM ?_|refine AN ?_|refine AO ?_|refine AP ?_|refine AQ rfl ?_|refine AR ?_|refine AS ?_|refine AT rfl ?_|refine AU rfl ?_
    refine wr_call_e rfl ((add_w1 hE T.toWaW bx5 d5 hdg (by omega) (by omega) ef.ents hml.1 hbl (by rw [List.length_append]; omega)).mono fun r h6 ⟨e6, d6, bx6, k6⟩ => ?_)
    subst e6
    repeat first|(refine BG ?_;first|(refine BH ?_;first|(refine BI ?_;refine BM ?_)|(refine BJ ?_;first|refine BN ?_|refine BO ?_)|refine BP ?_)|(refine BK ?_;first|refine BS rfl rfl ?_|refine BT rfl rfl ?_|refine BU rfl ?_)|(refine BL ?_;first|refine BQ ?_)|(refine BR ?_;try simp only [setS]))|refine AA ?_|refine AC ?_|refine AD ?_|refine AE ?_|refine AF rfl rfl ?_|refine AG rfl rfl ?_|refine AH ?_|refine AI ?_|refine AJ ?_|refine AK ?_|refine AL ?_|refine AM ?_|refine AN ?_|refine AO ?_|refine AP ?_|refine AQ rfl ?_|refine AR ?_|refine AS ?_|refine AT rfl ?_|refine AU rfl ?_
    rw [show ((A.length : Int) + i + 1) = (A.length : Int) + ((i + 1 : Nat) : Int) by omega] at bx6
    rw [show ((i : Int) + 1) = ((i + 1 : Nat) : Int) by omega]
    exact round_norm (n - 1) (by omega) ⟨i + 1, _, _, by omega, by omega, kup (S := NoB) K k6, Nat.lt_of_lt_of_le hlg k6.n, by rw [hls, ← List.append_assoc]; exact d6, bx6, rfl⟩
  have e : i = B.length := by omega
  subst e
  rw [List.take_length, ← laid_app] at d5
  repeat first|(refine BG ?_;first|(refine BH ?_;first|(refine BI ?_;refine BM ?_)|(refine BJ ?_;first|refine BN ?_|refine BO ?_)|refine BV (rsB.lenv (by rfl)) ?_|refine BP ?_)|(refine BK ?_;first|refine BS rfl rfl ?_|refine BT rfl rfl ?_|refine BU rfl ?_)|(refine BL ?_;first|refine BQ ?_)|(refine BR ?_;try simp only [setS]))|refine AA ?_|refine AC ?_|refine AD ?_|refine AE ?_|refine AF rfl rfl ?_|refine AG rfl rfl ?_|refine AH ?_|refine AI ?_|refine AJ ?_|refine AK ?_|refine AL ?_|refine AM ?_|refine AN ?_|refine AO ?_|refine AP ?_|refine AQ rfl ?_|refine AR ?_|refine AS ?_|refine AT rfl ?_|refine AU rfl ?_
  refine wr_call_e rfl ((w_int hE T.crash d5 (by rw [W1.fl]; omega) hkeep).mono fun r h6 ⟨e6, d6, k6⟩ => ?_)
  subst e6
  rw [W1.crash] at d6
  have K6 : Keep NoB h2 h6 := K.own k6 (fun k q => by have q : k = h2.n := q; omega)
  generalize hkk : (laidB A).length + min keep.toNat ((laidB (A ++ B)).length - (laidB A).length) = kk at *
  have hAB : (laidB (A ++ B)).length = (laidB A).length + (laidB B).length := by rw [laid_app, List.length_append]
  have hmay : ∀ l ∈ A ++ B, mayB l = true ∧ nrm l := fun l hl => (List.mem_append.1 hl).elim (dA.may l) (dB.may l)
  have hbat : ∀ l ∈ A ++ B, (batB l).length ≤ 1048576 := fun l hl => (List.mem_append.1 hl).elim (dA.bat l) (dB.bat l)
  obtain ⟨m, sy, hm1, hop, hm2⟩ := W1.open_ (s := w0) (L := 16777216) (sy := kk) (ls := A ++ B) (p := (laidB (A ++ B)).take kk) (q := (laidB (A ++ B)).drop kk) hmay hbat (List.take_append_drop _ _)
  have hmA : A.length ≤ m := hm2 A.length (by rw [List.length_append]; omega) (by rw [List.take_left, List.length_take]; omega)
  have hml : m ≤ A.length + B.length := by rw [List.length_append] at hm1; exact hm1
  have hAm : (A ++ B).take m = A ++ B.take (m - A.length) := by rw [List.take_append, List.take_of_length_le hmA]
  have hlm : ((A ++ B).take m).length = m := by rw [List.length_take]; omega
  have hM := hmay
  generalize hXM : (A ++ B).take m = M at *
  have dM : ∀ l ∈ M, mayB l = true ∧ nrm l := fun l hl => hmay l (List.mem_of_mem_take (by rw [hXM]; exact hl))
  have bM : ∀ l ∈ M, (batB l).length ≤ 1048576 := fun l hl => hbat l (List.mem_of_mem_take (by rw [hXM]; exact hl))
  have lM : (laidB M).length ≤ 8000000 := by
    have := laid_le (ls := A ++ B) m
    rw [hXM] at this
    omega
  repeat first|(refine BG ?_;first|(refine BH ?_;first|(refine BI ?_;refine BM ?_)|(refine BJ ?_;first|refine BN ?_|refine BO ?_)|refine BP ?_)|(refine BK ?_;first|refine BS rfl rfl ?_|refine BT rfl rfl ?_|refine BU rfl ?_)|(refine BL ?_;first|refine BQ ?_)|(refine BR ?_;try simp only [setS]))|refine AA ?_|refine AC ?_|refine AD ?_|refine AE ?_|refine AF rfl rfl ?_|refine AG rfl rfl ?_|refine AH ?_|refine AI ?_|refine AJ ?_|refine AK ?_|refine AL ?_|refine AM ?_|refine AN ?_|refine AO ?_|refine AP ?_|refine AQ rfl ?_|refine AR ?_|refine AS ?_|refine AT rfl ?_|refine AU rfl ?_
  refine wr_call_e rfl ((open_w1 hE T.toWaW d6 (by rw [W1.fl]; omega) (by decide) (by decide) (by rw [W1.begin_]; simp only; rw [List.length_take]; omega) hop).mono fun r h7 ⟨k7, d7, lg2, mv, e7, g7, bx7, XM⟩ => ?_)
  subst e7
  have K7 : Keep NoB h2 h7 := K6.own k7 (fun k q => by have q : k = h2.n := q; omega)
  have XA7 := XA.up K7
  have XB7 := XB.up K7
  have n6 := K6.n
  have hlt7 := bx7.lt
  obtain ⟨cA7, rA7, _, eA7⟩ := XA7.out
  obtain ⟨cB7, rB7, _, eB7⟩ := XB7.out
  have kp : Keep NoB h7 (h7.push (.rw [])) := Keep.push _ _ _
  have oz : OS (h7.push (.rw [])) 1 (.slice 1 h7.n 0 0 (some 0)) 0 [] := ⟨rfl, rfl, Nat.zero_lt_one, Nat.lt_succ_self _, [], Hp.push_self _ _, by simp, by simp, by simp⟩
  repeat first|(refine BG ?_;first|(refine BH ?_;first|(refine BI ?_;refine BM ?_)|(refine BJ ?_;first|refine BN ?_|refine BO ?_)|refine BP ?_)|(refine BK ?_;first|refine BS rfl rfl ?_|refine BT rfl rfl ?_|refine BU rfl ?_)|(refine BL ?_;first|refine BQ ?_)|(refine BR ?_;try simp only [setS]))|refine AA ?_|refine AC ?_|refine AD ?_|refine AE ?_|refine AF rfl rfl ?_|refine AG rfl rfl ?_|refine AH ?_|refine AI ?_|refine AJ ?_|refine AK ?_|refine AL ?_|refine AM ?_|refine AN ?_|refine AO ?_|refine AP ?_|refine AQ rfl ?_|refine AR ?_|refine AS ?_|refine AT rfl ?_|refine AU rfl ?_
  refine wr_app_e rfl rfl oz Nat.zero_lt_one (rA7.up kp) (by omega) (by omega) fun v8 h8 a1 a2 a3 => ?_
  have lo8 : ∀ k, blk v8 k → h7.n ≤ k := fun k q => by
    rcases a3 k q with q | q
    · have q : k = h7.n := q; omega
    · simp only [push_n] at q; omega
  have kz : Keep NoB h7 h8 := kp.own a2 (fun k q => by have q : k = h7.n := q; omega)
  repeat first|(refine BG ?_;first|(refine BH ?_;first|(refine BI ?_;refine BM ?_)|(refine BJ ?_;first|refine BN ?_|refine BO ?_)|refine BP ?_)|(refine BK ?_;first|refine BS rfl rfl ?_|refine BT rfl rfl ?_|refine BU rfl ?_)|(refine BL ?_;first|refine BQ ?_)|(refine BR ?_;try simp only [setS]))|refine AA ?_|refine AC ?_|refine AD ?_|refine AE ?_|refine AF rfl rfl ?_|refine AG rfl rfl ?_|refine AH ?_|refine AI ?_|refine AJ ?_|refine AK ?_|refine AL ?_|refine AM ?_|refine AN ?_|refine AO ?_|refine AP ?_|refine AQ rfl ?_|refine AR ?_|refine AS ?_|refine AT rfl ?_|refine AU rfl ?_
  refine wr_app_e rfl rfl a1 Nat.zero_lt_one (rB7.up kz) (by omega) (by omega) fun v9 h9 b1 b2 b3 => ?_
  have kz9 : Keep NoB h7 h9 := kz.own b2 lo8
  rw [Nat.zero_add, List.nil_append] at b1
  have lcA := rA7.len
  have XJ : Bats h9 v9 (A ++ B) (fun _ => True) := Bats.join (F := fun k => k < h2.n) (G := fun k => k < h2.n) (ca := cA7) (cb := cB7) (fun i l hi => by obtain ⟨c, q1, q2⟩ := eA7 i l hi; exact ⟨c, q1, q2.up kz9⟩) (fun i l hi => by obtain ⟨c, q1, q2⟩ := eB7 i l hi; exact ⟨c, q1, q2.up kz9⟩) (by omega) b1.rs
  obtain ⟨vs, XS, sls⟩ := XJ.sl (m := m) (by rw [List.length_append]; omega)
  rw [hXM] at XS
  have XM9 := XM.up kz9
  have bx9 := bx7.up kz9
  have d9 := d7.up kz9
  obtain ⟨cM, rM⟩ := XM9.rs
  obtain ⟨cJ, rJ⟩ := XJ.rs
  rw [List.length_append] at rJ
  have rA9 := rA7.up kz9
  rw [hlm] at rM
  have hshort : ∀ l ∈ M, l.length ≤ maxLen := fun l hl => by have := (may_all (dM l hl).1).1; omega
  repeat first|(refine BG ?_;first|(refine BH ?_;first|(refine BI ?_;refine BM ?_)|(refine BJ ?_;first|refine BN ?_|refine BO ?_)|refine BV (v_pnil rfl) ?_|refine BV (rM.lenv (by rfl)) ?_|refine BV (rA9.lenv (by rfl)) ?_|refine BV (rJ.lenv (by rfl)) ?_|refine BV (sls rfl rfl) ?_|refine BP ?_)|(refine BK ?_;first|refine BS rfl rfl ?_|refine BT rfl rfl ?_|refine BU rfl ?_)|(refine BL ?_;first|refine BQ ?_)|(refine BR ?_;try simp only [setS]))|refine AA ?_|refine AC ?_|refine AD ?_|refine AE ?_|refine AF rfl rfl ?_|refine AG rfl rfl ?_|refine AH ?_|refine AI ?_|refine AJ ?_|refine AK ?_|refine AL ?_|refine AM ?_|refine AN ?_|refine AO ?_|refine AP ?_|refine AQ rfl ?_|refine AR ?_|refine AS ?_|refine AT rfl ?_|refine AU rfl ?_
  refine wr_call_e rfl ((w5same_ok hE T.toWaS XM9 XS (by omega) hshort).mono fun r h10 ⟨e10, e11⟩ => ?_)
  subst e10 e11
  rw [eqLL_refl]
  repeat first|(refine BG ?_;first|(refine BH ?_;first|(refine BI ?_;refine BM ?_)|(refine BJ ?_;first|refine BN ?_|refine BO ?_)|refine BP ?_)|(refine BK ?_;first|refine BS rfl rfl ?_|refine BT rfl rfl ?_|refine BU rfl ?_)|(refine BL ?_;first|refine BQ ?_)|(refine BR ?_;try simp only [setS]))|refine AA ?_|refine AC ?_|refine AD ?_|refine AE ?_|refine AF rfl rfl ?_|refine AG rfl rfl ?_|refine AH ?_|refine AI ?_|refine AJ ?_|refine AK ?_|refine AL ?_|refine AM ?_|refine AN ?_|refine AO ?_|refine AP ?_|refine AQ rfl ?_|refine AR ?_|refine AS ?_|refine AT rfl ?_|refine AU rfl ?_
  refine wr_heap (h' := h10.push (.rw ([109, 111, 114, 101].map ub))) rfl ?_
  have kx0 : Keep NoB h10 (h10.push (.rw ([109, 111, 114, 101].map ub))) := Keep.push _ _ _
  have hd6 := d6.lt
  refine BG ?_
  refine BL ?_
  refine BW (ef_mark rfl (Hp.push_self _ _)) ?_
  obtain ⟨h11, hh11⟩ : ∃ h11 : Hp MD, h11 = (h10.push (.rw ([109, 111, 114, 101].map ub))).put h10.n (.rw ([109, 111, 114, 101].map ub)) := ⟨_, rfl⟩
  refine wr_heap (h' := h11) (by rw [hh11]) ?_
  have kx : Keep NoB h10 h11 := by rw [hh11]; exact kx0.own (Keep.put (S := OneB h10.n) _ _ _ rfl) (fun k q => by have q : k = h10.n := q; omega)
  have rx : RS h11 1 (.slice 1 h10.n 0 4 (some 4)) 4 ([109, 111, 114, 101].map ub) := ⟨rfl, rfl, by rw [hh11]; exact Nat.lt_succ_self _, [109, 111, 114, 101].map ub, rowOf_rw (by rw [hh11]; exact Hp.put_self _ _ _), by decide, rfl⟩
  have bx10 := bx9.up kx
  have d10 := d9.up kx
  have XM10 := XM9.up kx
  clear hh11
  have ky : Keep NoB h11 (h11.push (.rw [.slice 1 h10.n 0 4 (some 4), .snil, .bool false])) := Keep.push _ _ _
  repeat first|(refine BG ?_;first|(refine BH ?_;first|(refine BI ?_;refine BM ?_)|(refine BJ ?_;first|refine BN ?_|refine BO ?_)|refine BV (v_bld1of3 rfl rfl) ?_|refine BP ?_)|(refine BK ?_;first|refine BS rfl rfl ?_|refine BT rfl rfl ?_|refine BU rfl ?_)|(refine BL ?_;first|refine BW (ef_bsN rfl rfl rfl) ?_|refine BQ ?_)|(refine BR ?_;try simp only [setS]))|refine AA ?_|refine AC ?_|refine AD ?_|refine AE ?_|refine AF rfl rfl ?_|refine AG rfl rfl ?_|refine AH ?_|refine AI ?_|refine AJ ?_|refine AK ?_|refine AL ?_|refine AM ?_|refine AN ?_|refine AO ?_|refine AP ?_|refine AQ rfl ?_|refine AR ?_|refine AS ?_|refine AT rfl ?_|refine AU rfl ?_
  have ents : Ents (h11.push (.rw [.slice 1 h10.n 0 4 (some 4), .snil, .bool false])) (.slice 3 h11.n 0 1 (some 1)) moreL := ⟨[(.slice 1 h10.n 0 4 (some 4), .snil, false)], rs_push (n := 1) (z := 3) rfl, rfl, fun i q e q1 q2 => by
    cases i with
    | zero =>
      simp only [List.getElem?_cons_zero, Option.some.injEq] at q1
      simp only [moreL, List.getElem?_cons_zero, Option.some.injEq] at q2
      subst q1 q2
      exact ⟨rfl, rx.up ky, ⟨rfl, rfl⟩⟩
    | succ i => simp at q1⟩
  refine wr_call_e rfl ((add_w1 hE T.toWaW (bx10.up ky) (d10.up ky) (by omega) (by omega) (by rw [hlm]; omega) ents more_may (by have := more_len; omega) (by rw [recB_len]; have := more_len; omega)).mono fun r h12 ⟨e12, d12, bx12, k12⟩ => ?_)
  subst e12
  have eN : laidB M ++ recB (batB moreL) = laidB (M ++ [moreL]) := by rw [laid_app]; simp [laidB]
  rw [eN] at d12
  have XM12 := ((XM10.up ky).keep k12 (fun k q q2 => by rcases q2 with q2 | q2 <;> omega)).on (G := fun _ => True) (fun _ _ => trivial)
  have lN : (laidB (M ++ [moreL])).length ≤ 9000000 := by rw [← eN, List.length_append, recB_len]; have := more_len; omega
  have dN : ∀ l ∈ M ++ [moreL], mayB l = true ∧ nrm l := fun l hl => (List.mem_append.1 hl).elim (dM l) (fun q => by rw [List.mem_singleton.1 q]; exact ⟨more_may, more_nrm⟩)
  have bN : ∀ l ∈ M ++ [moreL], (batB l).length ≤ 1048576 := fun l hl => (List.mem_append.1 hl).elim (bM l) (fun q => by rw [List.mem_singleton.1 q]; have := more_len; omega)
  repeat first|(refine BG ?_;first|(refine BH ?_;first|(refine BI ?_;refine BM ?_)|(refine BJ ?_;first|refine BN ?_|refine BO ?_)|refine BP ?_)|(refine BK ?_;first|refine BS rfl rfl ?_|refine BT rfl rfl ?_|refine BU rfl ?_)|(refine BL ?_;first|refine BQ ?_)|(refine BR ?_;try simp only [setS]))|refine AA ?_|refine AC ?_|refine AD ?_|refine AE ?_|refine AF rfl rfl ?_|refine AG rfl rfl ?_|refine AH ?_|refine AI ?_|refine AJ ?_|refine AK ?_|refine AL ?_|refine AM ?_|refine AN ?_|refine AO ?_|refine AP ?_|refine AQ rfl ?_|refine AR ?_|refine AS ?_|refine AT rfl ?_|refine AU rfl ?_
  refine wr_call_e rfl ((open_w1 hE T.toWaW d12 (by rw [W1.fl]; omega) (by decide) (by decide) (by rw [W1.begin_]; simp only; omega) (W1.whole (s := w0) dN bN)).mono fun r h13 ⟨k13, d13, lg3, nv, e13, g13, bx13, XN⟩ => ?_)
  subst e13
  have n12 := k12.n
  have n11 := ky.n
  have XM13 := ((XM10.up ky).keep k12 (fun k q q2 => by rcases q2 with q2 | q2 <;> omega)).keep k13 (fun k q q2 => by have q2 : k = h2.n := q2; omega)
  obtain ⟨cM13, rM13⟩ := XM13.rs
  obtain ⟨cN, rN⟩ := XN.rs
  rw [List.length_append, List.length_singleton, hlm] at rN
  rw [hlm] at rM13
  obtain ⟨vt, XT, tls⟩ := XN.sl (m := m) (by rw [List.length_append]; omega)
  have eT : (M ++ [moreL]).take m = M := by rw [← hlm]; exact List.take_left
  rw [eT] at XT
  repeat first|(refine BG ?_;first|(refine BH ?_;first|(refine BI ?_;refine BM ?_)|(refine BJ ?_;first|refine BN ?_|refine BO ?_)|refine BV (rM13.lenv (by rfl)) ?_|refine BV (rN.lenv (by rfl)) ?_|refine BV (tls rfl rfl) ?_|refine BP ?_)|(refine BK ?_;first|refine BS rfl rfl ?_|refine BT rfl rfl ?_|refine BU rfl ?_)|(refine BL ?_;first|refine BQ ?_)|(refine BR ?_;try simp only [setS]))|refine AA ?_|refine AC ?_|refine AD ?_|refine AE ?_|refine AF rfl rfl ?_|refine AG rfl rfl ?_|refine AH ?_|refine AI ?_|refine AJ ?_|refine AK ?_|refine AL ?_|refine AM ?_|refine AN ?_|refine AO ?_|refine AP ?_|refine AQ rfl ?_|refine AR ?_|refine AS ?_|refine AT rfl ?_|refine AU rfl ?_
  refine wr_call_e rfl ((w5same_ok hE T.toWaS XT XM13 (by omega) hshort).mono fun r h14 ⟨e14, e15⟩ => ?_)
  subst e14 e15
  rw [eqLL_refl]
  repeat first|(refine BG ?_;first|(refine BH ?_;first|(refine BI ?_;refine BM ?_)|(refine BJ ?_;first|refine BN ?_|refine BO ?_)|refine BP ?_)|(refine BK ?_;first|refine BS rfl rfl ?_|refine BT rfl rfl ?_|refine BU rfl ?_)|(refine BL ?_;first|refine BQ ?_)|(refine BR ?_;try simp only [setS]))|refine AA ?_|refine AC ?_|refine AD ?_|refine AE ?_|refine AF rfl rfl ?_|refine AG rfl rfl ?_|refine AH ?_|refine AI ?_|refine AJ ?_|refine AK ?_|refine AL ?_|refine AM ?_|refine AN ?_|refine AO ?_|refine AP ?_|refine AQ rfl ?_|refine AR ?_|refine AS ?_|refine AT rfl ?_|refine AU rfl ?_
  refine wr_call_e rfl ((wf_true hE T.known).mono fun r h16 ⟨e16, e17⟩ => ?_)
  subst e16 e17
  repeat first|(refine BG ?_;first|(refine BH ?_;first|(refine BI ?_;refine BM ?_)|(refine BJ ?_;first|refine BN ?_|refine BO ?_)|refine BP ?_)|(refine BK ?_;first|refine BS rfl rfl ?_|refine BT rfl rfl ?_|refine BU rfl ?_)|(refine BL ?_;first|refine BQ ?_)|(refine BR ?_;try simp only [setS]))|refine AA ?_|refine AC ?_|refine AD ?_|refine AE ?_|refine AF rfl rfl ?_|refine AG rfl rfl ?_|refine AH ?_|refine AI ?_|refine AJ ?_|refine AK ?_|refine AL ?_|refine AM ?_|refine AN ?_|refine AO ?_|refine AP ?_|refine AQ rfl ?_|refine AR ?_|refine AS ?_|refine AT rfl ?_|refine AU rfl ?_
  rfl
end
end Am
end Go.Proofs.Ythgcdoahoechhaa
