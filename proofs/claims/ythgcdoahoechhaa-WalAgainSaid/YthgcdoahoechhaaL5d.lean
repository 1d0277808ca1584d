/- WalAgain: the law, walked. -/
import Derived.Test.YthgcdoahoechhaaL5c
set_option linter.unusedVariables false
set_option linter.unusedSimpArgs false
namespace Go.Proofs.Ythgcdoahoechhaa
namespace Am
open Go.RowKit
set_option maxRecDepth 100000
def b_WalAgain : BF := ⟨116, [0, 1, 4, 5, 6, 8, 9, 10, 12, 13, 16, 17, 22, 32, 49, 59, 93], (.seq (.reg [.mk none (.slot 2) (.mov (.mv (.const (.bool false))))]) (.seq (.reg [.mk none (.env 18) (.mov (.mv (.slot 0))), .mk none (.env 19) (.call 17 [(.env 18), (.const (.int .i64 10))]), .mk none (.slot 0) (.mov (.mv (.env 19)))]) (.seq (.reg [.mk none (.env 20) (.call 18 []), .mk none (.slot 3) (.mov (.mv (.env 20)))]) (.seq (.seq (.reg [.mk none (.env 21) (.mov (.mv (.slot 3))), .mk none (.slot 12) (.mov (.bin .eql .ptr (.env 21) (.const .nilp)))]) (.cond (.slot 12) (.seq (.reg [.mk none (.slot 2) (.mov (.mv (.const (.bool false))))]) .ret) .skip)) (.seq (.reg [.mk none (.env 24) (.mov (.mv (.slot 3))), .mk none (.env 25) (.call 19 [(.env 24), (.const (.str [119, 48]))]), .mk none (.env 23) (.mov (.mv (.env 25))), .mk none (.env 26) (.mov (.ext 0 (.env 23))), .mk none (.env 27) (.mov (.ext 1 (.env 23))), .mk none (.env 28) (.mov (.ext 2 (.env 23))), .mk none (.slot 4) (.mov (.mv (.env 26))), .mk none (.env 7) (.mov (.mv (.env 27))), .mk none (.slot 5) (.mov (.mv (.env 28)))]) (.seq (.seq (.reg [.mk none (.slot 6) (.mov (.mv (.const (.int .i64 0))))]) (.block 0 (.loop (.seq (.seq (.reg [.mk none (.env 29) (.mov (.mv (.slot 6))), .mk none (.env 30) (.mov (.mv (.slot 0))), .mk none (.env 31) (.mov (.lenv (.env 30))), .mk none (.slot 13) (.mov (.bin .lss .no (.env 29) (.env 31)))]) (.cond (.slot 13) .skip (.exit 0))) (.seq (.block 1 (.seq (.seq (.reg [.mk none (.env 35) (.mov (.mv (.slot 4))), .mk none (.env 36) (.mov (.bin .eql .ptr (.env 35) (.const .nilp))), .mk none (.env 37) (.mov (.mv (.env 36))), .mk (some ((.env 37), false)) (.env 38) (.mov (.mv (.slot 5))), .mk (some ((.env 37), false)) (.env 39) (.mov (.bin .neq .no (.env 38) (.const (.int .i64 0)))), .mk none (.env 40) (.mov (.pick (.env 37) (.const (.bool true)) (.env 39))), .mk none (.env 41) (.mov (.mv (.env 40))), .mk (some ((.env 41), false)) (.env 42) (.mov (.mv (.slot 4))), .mk (some ((.env 41), false)) (.env 43) (.mov (.mv (.slot 0))), .mk (some ((.env 41), false)) (.env 44) (.mov (.mv (.slot 6))), .mk (some ((.env 41), false)) (.env 45) (.mov (.iaddr 1 (.env 43) (.env 44))), .mk (some ((.env 41), false)) (.env 46) (.mov (.ld1 (.env 45))), .mk (some ((.env 41), false)) (.env 47) (.call 20 [(.env 42), (.env 46)]), .mk (some ((.env 41), false)) (.env 48) (.mov (.bin .neq .no (.env 47) (.const (.int .i64 0)))), .mk none (.slot 14) (.mov (.pick (.env 41) (.const (.bool true)) (.env 48)))]) (.cond (.slot 14) (.seq (.reg [.mk none (.slot 2) (.mov (.mv (.const (.bool false))))]) .ret) .skip)) (.seq (.reg [.mk none (.env 50) (.mov (.mv (.slot 6))), .mk none (.env 51) (.mov (.mv (.slot 1))), .mk none (.env 52) (.mov (.lenv (.env 51))), .mk none (.env 53) (.mov (.bin .lss .no (.env 50) (.env 52))), .mk none (.env 54) (.mov (.mv (.env 53))), .mk (some ((.env 54), true)) (.env 55) (.mov (.mv (.slot 1))), .mk (some ((.env 54), true)) (.env 56) (.mov (.mv (.slot 6))), .mk (some ((.env 54), true)) (.env 57) (.mov (.iaddr 1 (.env 55) (.env 56))), .mk (some ((.env 54), true)) (.env 58) (.mov (.ld1 (.env 57))), .mk none (.slot 15) (.mov (.pick (.env 54) (.env 58) (.const (.bool false))))]) (.cond (.slot 15) (.seq (.reg [.mk none (.env 61) (.mov (.mv (.slot 3))), .mk none (.env 62) (.call 32 [(.env 61), (.const (.str [119, 48]))]), .mk none (.env 60) (.mov (.mv (.env 62))), .mk none (.env 63) (.mov (.ext 0 (.env 60))), .mk none (.env 64) (.mov (.ext 1 (.env 60))), .mk none (.slot 7) (.mov (.mv (.env 63))), .mk none (.env 11) (.mov (.mv (.env 64)))]) (.seq (.reg [.mk none (.slot 8) (.mov (.mv (.const .snil)))]) (.seq (.reg [.mk none (.env 66) (.mov (.mv (.slot 3))), .mk none (.env 67) (.call 19 [(.env 66), (.const (.str [119, 48]))]), .mk none (.env 65) (.mov (.mv (.env 67))), .mk none (.env 68) (.mov (.ext 0 (.env 65))), .mk none (.env 69) (.mov (.ext 1 (.env 65))), .mk none (.env 70) (.mov (.ext 2 (.env 65))), .mk none (.slot 4) (.mov (.mv (.env 68))), .mk none (.slot 8) (.mov (.mv (.env 69))), .mk none (.slot 5) (.mov (.mv (.env 70)))]) (.seq (.reg [.mk none (.env 72) (.mov (.mv (.slot 3))), .mk none (.env 73) (.call 32 [(.env 72), (.const (.str [119, 48]))]), .mk none (.env 71) (.mov (.mv (.env 73))), .mk none (.env 74) (.mov (.ext 0 (.env 71))), .mk none (.env 75) (.mov (.ext 1 (.env 71))), .mk none (.slot 9) (.mov (.mv (.env 74))), .mk none (.env 14) (.mov (.mv (.env 75)))]) (.seq (.reg [.mk none (.env 76) (.mov (.mv (.slot 5))), .mk none (.env 77) (.mov (.bin .neq .no (.env 76) (.const (.int .i64 0)))), .mk none (.env 78) (.mov (.mv (.env 77))), .mk (some ((.env 78), false)) (.env 79) (.mov (.mv (.slot 8))), .mk (some ((.env 78), false)) (.env 80) (.mov (.mv (.slot 0))), .mk (some ((.env 78), false)) (.env 81) (.mov (.mv (.slot 6))), .mk (some ((.env 78), false)) (.env 82) (.mov (.bin .add .no (.env 81) (.const (.int .i64 1)))), .mk (some ((.env 78), false)) (.env 83) (.mov (.sl 1 (.env 80) none (some (.env 82)) none)), .mk (some ((.env 78), false)) (.env 84) (.call 23 [(.env 79), (.env 83)]), .mk (some ((.env 78), false)) (.env 85) (.mov (.notb (.env 84))), .mk none (.env 86) (.mov (.pick (.env 78) (.const (.bool true)) (.env 85))), .mk none (.env 87) (.mov (.mv (.env 86))), .mk (some ((.env 87), false)) (.env 88) (.mov (.mv (.slot 7))), .mk (some ((.env 87), false)) (.env 89) (.mov (.b2s (.env 88))), .mk (some ((.env 87), false)) (.env 90) (.mov (.mv (.slot 9))), .mk (some ((.env 87), false)) (.env 91) (.mov (.b2s (.env 90))), .mk (some ((.env 87), false)) (.env 92) (.mov (.bin .neq .no (.env 89) (.env 91))), .mk none (.slot 16) (.mov (.pick (.env 87) (.const (.bool true)) (.env 92)))]) (.cond (.slot 16) (.seq (.reg [.mk none (.slot 2) (.mov (.mv (.const (.bool false))))]) .ret) .skip)))))) .skip)))) (.reg [.mk none (.env 33) (.mov (.mv (.slot 6))), .mk none (.env 34) (.mov (.bin .add .no (.env 33) (.const (.int .i64 1)))), .mk none (.slot 6) (.mov (.mv (.env 34)))])))))) (.seq (.reg [.mk none (.env 95) (.mov (.mv (.slot 3))), .mk none (.env 96) (.call 19 [(.env 95), (.const (.str [119, 48]))]), .mk none (.env 94) (.mov (.mv (.env 96))), .mk none (.env 97) (.mov (.ext 0 (.env 94))), .mk none (.env 98) (.mov (.ext 1 (.env 94))), .mk none (.env 99) (.mov (.ext 2 (.env 94))), .mk none (.env 15) (.mov (.mv (.env 97))), .mk none (.slot 10) (.mov (.mv (.env 98))), .mk none (.slot 11) (.mov (.mv (.env 99)))]) (.seq (.reg [.mk none (.env 100) (.mov (.mv (.slot 11))), .mk none (.env 101) (.mov (.bin .eql .no (.env 100) (.const (.int .i64 0)))), .mk none (.env 102) (.mov (.mv (.env 101))), .mk (some ((.env 102), true)) (.env 103) (.mov (.mv (.slot 10))), .mk (some ((.env 102), true)) (.env 104) (.mov (.mv (.slot 0))), .mk (some ((.env 102), true)) (.env 105) (.call 23 [(.env 103), (.env 104)]), .mk none (.env 106) (.mov (.pick (.env 102) (.env 105) (.const (.bool false)))), .mk none (.env 107) (.mov (.mv (.env 106))), .mk (some ((.env 107), true)) (.env 108) (.mov (.mv (.slot 3))), .mk (some ((.env 107), true)) (.env 109) (.call 33 [(.env 108)]), .mk (some ((.env 107), true)) (.env 110) (.mov (.lenv (.env 109))), .mk (some ((.env 107), true)) (.env 111) (.mov (.bin .eql .no (.env 110) (.const (.int .i64 1)))), .mk none (.env 112) (.mov (.pick (.env 107) (.env 111) (.const (.bool false)))), .mk none (.env 113) (.mov (.mv (.env 112))), .mk (some ((.env 113), true)) (.env 114) (.call 24 []), .mk none (.env 115) (.mov (.pick (.env 113) (.env 114) (.const (.bool false)))), .mk none (.slot 2) (.mov (.mv (.env 115)))]) .ret)))))))), [.slot (.slot 2)]⟩
section
variable {E : Nat → Option (Ent MD)}
set_option maxHeartbeats 8000000 in
theorem wagain_ok (hE : ∀ f e, E f = some e → e.plain) (T : WaV E) (hnames : E 33 = some (.nat n_names)) (hlaw : E 7 = some (.bc b_WalAgain)) {h : Hp MD} {va vc : AV} {a : List (List EM)} {cuts : List Bool}
    (ha : Bats h va a (fun _ => True)) (hal : a.length ≤ maxLen) (ha2 : ∀ l ∈ a, l.length ≤ maxLen) (hc : RS h 1 vc cuts.length (cuts.map AV.bool)) (hcl : cuts.length ≤ maxLen) :
    WF (lim E) 7 [va, vc] h fun r _ => r = .bool true := by
  refine wf_bc hE hlaw rfl ?_
  simp only [b_WalAgain, List.map, getS]
  have hmx : (maxLen : Nat) = 9223372036854775807 := rfl
  repeat first|(refine BG ?_;first|(refine BH ?_;first|(refine BI ?_;refine BM ?_)|(refine BJ ?_;first|refine BN ?_|refine BO ?_)|refine BP ?_)|(refine BK ?_;first|refine BS rfl rfl ?_|refine BT rfl rfl ?_|refine BU rfl ?_)|(refine BL ?_;first|refine BQ ?_)|(refine BR ?_;try simp only [setS]))|refine AA ?_|refine AC ?_|refine AD ?_|refine AE ?_|refine AF rfl rfl ?_|refine AG rfl rfl ?_|refine AH ?_|refine AI ?_|refine AJ ?_|refine AK ?_|refine AL ?_|refine AM ?_|refine AN ?_|refine AO ?_|refine AP ?_|refine AQ rfl ?_|refine AR ?_|refine AS ?_|refine AT rfl ?_|refine AU rfl ?_
  refine wr_call_e rfl ((batches_ok hE T.toWaK ha (n := 10) (by omega) hal ha2).mono fun ra h1 ⟨k1, o1⟩ => ?_)
  have dA : Drawn ((a.take 10).map (keepL 5 20 30)) 10 := drawn
  generalize (a.take 10).map (keepL 5 20 30) = A at *
  have XA := (o1.bats (G := fun _ => True) (fun _ _ _ => trivial) (fun _ _ => trivial)).lt.on (G := fun k => k < h1.n) (fun _ q => q.2)
  have lA := dA.laid
  have nA := dA.len
  have hc1 := hc.up k1
  clear o1
  repeat first|(refine BG ?_;first|(refine BH ?_;first|(refine BI ?_;refine BM ?_)|(refine BJ ?_;first|refine BN ?_|refine BO ?_)|refine BP ?_)|(refine BK ?_;first|refine BS rfl rfl ?_|refine BT rfl rfl ?_|refine BU rfl ?_)|(refine BL ?_;first|refine BQ ?_)|(refine BR ?_;try simp only [setS]))|refine AA ?_|refine AC ?_|refine AD ?_|refine AE ?_|refine AF rfl rfl ?_|refine AG rfl rfl ?_|refine AH ?_|refine AI ?_|refine AJ ?_|refine AK ?_|refine AL ?_|refine AM ?_|refine AN ?_|refine AO ?_|refine AP ?_|refine AQ rfl ?_|refine AR ?_|refine AS ?_|refine AT rfl ?_|refine AU rfl ?_
  refine wr_call_e rfl ((w5fresh_ok hE T).mono fun r h3 ⟨e3, d3, k3⟩ => ?_)
  subst e3
  have hD := d3.lt
  repeat first|(refine BG ?_;first|(refine BH ?_;first|(refine BI ?_;refine BM ?_)|(refine BJ ?_;first|refine BN ?_|refine BO ?_)|refine BV (v_pnil rfl) ?_|refine BP ?_)|(refine BK ?_;first|refine BS rfl rfl ?_|refine BT rfl rfl ?_|refine BU rfl ?_)|(refine BL ?_;first|refine BQ ?_)|(refine BR ?_;try simp only [setS]))|refine AA ?_|refine AC ?_|refine AD ?_|refine AE ?_|refine AF rfl rfl ?_|refine AG rfl rfl ?_|refine AH ?_|refine AI ?_|refine AJ ?_|refine AK ?_|refine AL ?_|refine AM ?_|refine AN ?_|refine AO ?_|refine AP ?_|refine AQ rfl ?_|refine AR ?_|refine AS ?_|refine AT rfl ?_|refine AU rfl ?_
  refine wr_call_e rfl ((open_w1 hE T.toWaW d3 (by decide) (by decide) (by decide) (by rw [begin_new (by decide)]; decide) (open_new (s := w0) (by decide))).mono fun r h4 ⟨k4, d4, lg, m0, e4, g4, bx4, _⟩ => ?_)
  subst e4
  have K4 : Keep NoB h1 h4 := k3.own k4 (fun k q => by have q : k = h1.n := q; omega)
  repeat first|(refine BG ?_;first|(refine BH ?_;first|(refine BI ?_;refine BM ?_)|(refine BJ ?_;first|refine BN ?_|refine BO ?_)|refine BP ?_)|(refine BK ?_;first|refine BS rfl rfl ?_|refine BT rfl rfl ?_|refine BU rfl ?_)|(refine BL ?_;first|refine BQ ?_)|(refine BR ?_;try simp only [setS]))|refine AA ?_|refine AC ?_|refine AD ?_|refine AE ?_|refine AF rfl rfl ?_|refine AG rfl rfl ?_|refine AH ?_|refine AI ?_|refine AJ ?_|refine AK ?_|refine AL ?_|refine AM ?_|refine AN ?_|refine AO ?_|refine AP ?_|refine AQ rfl ?_|refine AR ?_|refine AS ?_|refine AT rfl ?_|refine AU rfl ?_
  refine wb_loop (fun n t hh => ∃ (i lg sy : Nat) (s7 s8 s9 s13 s14 s15 s16 : AV), i ≤ A.length ∧ n = A.length - i ∧ Keep NoB h1 hh ∧ h1.n < lg ∧ lg < hh.n ∧ Ob hh h1.n (W1 w0 16777216 0 false (laidB (A.take i)) sy) ∧ Bx hh lg [.ptr h1.n 0, .str w0, .int .i64 i] ∧
    t = [ra, vc, .bool false, .ptr h1.n 0, .ptr lg 0, .int .i64 0, .int .i64 i, s7, s8, s9, .bot, .bot, .bool false, s13, s14, s15, s16]) ?_ A.length _ _ ⟨0, lg, 0, _, _, _, _, _, _, _, by omega, by omega, K4, by omega, bx4.lt, d4, bx4, rfl⟩
  clear K4 bx4 d4 d3 g4
  rintro n t hh ⟨i, lg, sy, s7, s8, s9, s13, s14, s15, s16, hi, hn, K, hdg, hlg, d5, bx5, rfl⟩
  have XA5 := XA.up K
  have hc5 := hc1.up K
  obtain ⟨cA, rsA⟩ := XA5.rs
  have dT : ∀ i, ∀ l ∈ A.take i, mayB l = true ∧ nrm l := fun i l hl => dA.may l (List.mem_of_mem_take hl)
  have bT : ∀ i, ∀ l ∈ A.take i, (batB l).length ≤ 1048576 := fun i l hl => dA.bat l (List.mem_of_mem_take hl)
  have sT : ∀ l ∈ A, l.length ≤ maxLen := fun l hl => by have := dA.short l hl; omega
  by_cases hlt : i < A.length
  · obtain ⟨l, he⟩ : ∃ l, A[i]? = some l := ⟨_, List.getElem?_eq_getElem hlt⟩
    obtain ⟨g, o, c, ef, pa, la⟩ := XA5.at he
    have lc : ∀ {e : En} {t : List AV} {x : Od}, x.ev e t = .ptr g o → (Mv.ld1 x).ev e t hh = some c := fun {_ _ _} hx => la (Keep.refl NoB hh) (fun _ _ q => q) hx
    have hml := dA.may l (List.mem_of_getElem? he)
    have hbl := dA.bat l (List.mem_of_getElem? he)
    have hls := laidB_s he
    have hle := laid_le (ls := A) (i + 1)
    have hls2 := congrArg List.length hls
    rw [List.length_append] at hls2
    repeat first|(refine BG ?_;first|(refine BH ?_;first|(refine BI ?_;refine BM ?_)|(refine BJ ?_;first|refine BN ?_|refine BO ?_)|refine BV (rsA.lenv (by rfl)) ?_|refine BV (v_pnil rfl) ?_|refine BV (pa rfl rfl) ?_|refine BV (lc rfl) ?_|refine BP ?_)|(refine BK ?_;first|refine BS rfl rfl ?_|refine BT rfl rfl ?_|refine BU rfl ?_)|(refine BL ?_;first|refine BQ ?_)|(refine BR ?_;try simp only [setS]))|refine AA ?_|refine AC ?_|refine AD ?_|refine AE ?_|refine AF rfl rfl ?_|refine AG rfl rfl ?_|refine AH ?_|refine AI ?_|refine AJ ?_|refine AK ?_|refine AL ?_|refine AM ?_|refine AN ?_|refine AO ?_|refine AP ?_|refine AQ rfl ?_|refine AR ?_|refine AS ?_|refine AT rfl ?_|refine AU rfl ?_
    refine wr_call_e rfl ((add_w1 hE T.toWaW bx5 d5 (by omega) (by omega) (by omega) ef.ents hml.1 hbl (by omega)).mono fun r h6 ⟨e6, d6, bx6, k6⟩ => ?_)
    subst e6
    rw [← hls] at d6
    have K6 : Keep NoB h1 h6 := K.own k6 (fun k q => by rcases q with q | q <;> omega)
    have hlg6 := Nat.lt_of_lt_of_le hlg k6.n
    have hc6 := hc1.up K6
    rw [show ((i : Int) + 1) = ((i + 1 : Nat) : Int) by omega] at bx6
    have nxt : ∀ {h' : Hp MD} {lg sy : Nat} {s7 s8 s9 s13 s14 s15 s16 : AV}, Keep NoB h1 h' → h1.n < lg → lg < h'.n → Ob h' h1.n (W1 w0 16777216 0 false (laidB (A.take (i + 1))) sy) → Bx h' lg [.ptr h1.n 0, .str w0, .int .i64 ((i + 1 : Nat) : Int)] →
        ∃ (j lg2 sy : Nat) (t7 t8 t9 t13 t14 t15 t16 : AV), j ≤ A.length ∧ n - 1 = A.length - j ∧ Keep NoB h1 h' ∧ h1.n < lg2 ∧ lg2 < h'.n ∧ Ob h' h1.n (W1 w0 16777216 0 false (laidB (A.take j)) sy) ∧ Bx h' lg2 [.ptr h1.n 0, .str w0, .int .i64 j] ∧
          [ra, vc, .bool false, .ptr h1.n 0, .ptr lg 0, .int .i64 0, .int .i64 ((i : Int) + 1), s7, s8, s9, .bot, .bot, .bool false, s13, s14, s15, s16] = [ra, vc, .bool false, .ptr h1.n 0, .ptr lg2 0, .int .i64 0, .int .i64 j, t7, t8, t9, .bot, .bot, .bool false, t13, t14, t15, t16] := fun {h' lg sy s7 s8 s9 s13 s14 s15 s16} a b c d e => by
      rw [show ((i : Int) + 1) = ((i + 1 : Nat) : Int) by omega]
      exact ⟨i + 1, lg, sy, _, _, _, _, _, _, _, by omega, by omega, a, b, c, d, e, rfl⟩
    by_cases hcu : i < cuts.length
    · obtain ⟨b, hb⟩ : ∃ b, cuts[i]? = some b := ⟨_, List.getElem?_eq_getElem hcu⟩
      obtain ⟨g2, o2, pb, lb⟩ := hc6.at2 hcu
      have ld : ∀ {e : En} {t : List AV} {x : Od}, x.ev e t = .ptr g2 o2 → (Mv.ld1 x).ev e t h6 = some (.bool b) := fun {_ _ _} hx => by rw [lb (Keep.refl NoB h6) (fun _ _ q => q) hx, List.getElem?_map, hb]; rfl
      cases b with
      | false =>
        repeat first|(refine BG ?_;first|(refine BH ?_;first|(refine BI ?_;refine BM ?_)|(refine BJ ?_;first|refine BN ?_|refine BO ?_)|refine BV (hc6.lenv (by rfl)) ?_|refine BV (pb rfl rfl) ?_|refine BV (ld rfl) ?_|refine BP ?_)|(refine BK ?_;first|refine BS rfl rfl ?_|refine BT rfl rfl ?_|refine BU rfl ?_)|(refine BL ?_;first|refine BQ ?_)|(refine BR ?_;try simp only [setS]))|refine AA ?_|refine AC ?_|refine AD ?_|refine AE ?_|refine AF rfl rfl ?_|refine AG rfl rfl ?_|refine AH ?_|refine AI ?_|refine AJ ?_|refine AK ?_|refine AL ?_|refine AM ?_|refine AN ?_|refine AO ?_|refine AP ?_|refine AQ rfl ?_|refine AR ?_|refine AS ?_|refine AT rfl ?_|refine AU rfl ?_
        exact round_norm (n - 1) (by omega) (nxt K6 hdg hlg6 d6 bx6)
      | true =>
        repeat first|(refine BG ?_;first|(refine BH ?_;first|(refine BI ?_;refine BM ?_)|(refine BJ ?_;first|refine BN ?_|refine BO ?_)|refine BV (hc6.lenv (by rfl)) ?_|refine BV (pb rfl rfl) ?_|refine BV (ld rfl) ?_|refine BP ?_)|(refine BK ?_;first|refine BS rfl rfl ?_|refine BT rfl rfl ?_|refine BU rfl ?_)|(refine BL ?_;first|refine BQ ?_)|(refine BR ?_;try simp only [setS]))|refine AA ?_|refine AC ?_|refine AD ?_|refine AE ?_|refine AF rfl rfl ?_|refine AG rfl rfl ?_|refine AH ?_|refine AI ?_|refine AJ ?_|refine AK ?_|refine AL ?_|refine AM ?_|refine AN ?_|refine AO ?_|refine AP ?_|refine AQ rfl ?_|refine AR ?_|refine AS ?_|refine AT rfl ?_|refine AU rfl ?_
        refine wr_call_e rfl ((w_read hE T.dread d6 (by rw [W1.fl]; omega) W1.get).mono fun r h7 ⟨v7, e7, k7, r7, p7⟩ => ?_)
        subst e7
        have d7 := d6.up k7
        have K7 := K6.and k7
        repeat first|(refine BG ?_;first|(refine BH ?_;first|(refine BI ?_;refine BM ?_)|(refine BJ ?_;first|refine BN ?_|refine BO ?_)|refine BP ?_)|(refine BK ?_;first|refine BS rfl rfl ?_|refine BT rfl rfl ?_|refine BU rfl ?_)|(refine BL ?_;first|refine BQ ?_)|(refine BR ?_;try simp only [setS]))|refine AA ?_|refine AC ?_|refine AD ?_|refine AE ?_|refine AF rfl rfl ?_|refine AG rfl rfl ?_|refine AH ?_|refine AI ?_|refine AJ ?_|refine AK ?_|refine AL ?_|refine AM ?_|refine AN ?_|refine AO ?_|refine AP ?_|refine AQ rfl ?_|refine AR ?_|refine AS ?_|refine AT rfl ?_|refine AU rfl ?_
        refine wr_call_e rfl ((open_w1 hE T.toWaW d7 (by rw [W1.fl]; omega) (by decide) (by decide) (by rw [W1.begin_]; simp only; omega) (W1.whole (s := w0) (dT (i + 1)) (bT (i + 1)))).mono fun r h8 ⟨k8, d8, lg2, mv, e8, g8, bx8, XM⟩ => ?_)
        subst e8
        have K8 : Keep NoB h1 h8 := K7.own k8 (fun k q => by have q : k = h1.n := q; omega)
        have r8 := r7.keep k8 (fun k q1 q2 => by have q2 : k = h1.n := q2; have := p7 k q1; omega)
        repeat first|(refine BG ?_;first|(refine BH ?_;first|(refine BI ?_;refine BM ?_)|(refine BJ ?_;first|refine BN ?_|refine BO ?_)|refine BP ?_)|(refine BK ?_;first|refine BS rfl rfl ?_|refine BT rfl rfl ?_|refine BU rfl ?_)|(refine BL ?_;first|refine BQ ?_)|(refine BR ?_;try simp only [setS]))|refine AA ?_|refine AC ?_|refine AD ?_|refine AE ?_|refine AF rfl rfl ?_|refine AG rfl rfl ?_|refine AH ?_|refine AI ?_|refine AJ ?_|refine AK ?_|refine AL ?_|refine AM ?_|refine AN ?_|refine AO ?_|refine AP ?_|refine AQ rfl ?_|refine AR ?_|refine AS ?_|refine AT rfl ?_|refine AU rfl ?_
        refine wr_call_e rfl ((w_read hE T.dread d8 (by rw [W1.fl]; omega) W1.get).mono fun r h9 ⟨v9, e9, k9, r9, _⟩ => ?_)
        subst e9
        have d9 := d8.up k9
        have bx9 := bx8.up k9
        have K9 := K8.and k9
        have XM9 := XM.up k9
        have r89 := r8.up k9
        have XA9 := XA.up K9
        obtain ⟨vs, XS, sls⟩ := XA9.sl (m := i + 1) (by omega)
        have n7 := d7.lt
        have n9 := k9.n
        have hlt9 := bx8.lt
        have hlT : (A.take (i + 1)).length = i + 1 := by rw [List.length_take]; omega
        rw [hlT] at bx9
        repeat first|(refine BG ?_;first|(refine BH ?_;first|(refine BI ?_;refine BM ?_)|(refine BJ ?_;first|refine BN ?_|refine BO ?_)|refine BP ?_)|(refine BK ?_;first|refine BS rfl rfl ?_|refine BT rfl rfl ?_|refine BU rfl ?_)|(refine BL ?_;first|refine BQ ?_)|(refine BR ?_;try simp only [setS]))|refine AA ?_|refine AC ?_|refine AD ?_|refine AE ?_|refine AF rfl rfl ?_|refine AG rfl rfl ?_|refine AH ?_|refine AI ?_|refine AJ ?_|refine AK ?_|refine AL ?_|refine AM ?_|refine AN ?_|refine AO ?_|refine AP ?_|refine AQ rfl ?_|refine AR ?_|refine AS ?_|refine AT rfl ?_|refine AU rfl ?_
        rw [show ((i : Int) + 1) = ((i + 1 : Nat) : Int) by omega]
        repeat first|(refine BG ?_;first|(refine BH ?_;first|(refine BI ?_;refine BM ?_)|(refine BJ ?_;first|refine BN ?_|refine BO ?_)|refine BV (sls rfl rfl) ?_|refine BP ?_)|(refine BK ?_;first|refine BS rfl rfl ?_|refine BT rfl rfl ?_|refine BU rfl ?_)|(refine BL ?_;first|refine BQ ?_)|(refine BR ?_;try simp only [setS]))|refine AA ?_|refine AC ?_|refine AD ?_|refine AE ?_|refine AF rfl rfl ?_|refine AG rfl rfl ?_|refine AH ?_|refine AI ?_|refine AJ ?_|refine AK ?_|refine AL ?_|refine AM ?_|refine AN ?_|refine AO ?_|refine AP ?_|refine AQ rfl ?_|refine AR ?_|refine AS ?_|refine AT rfl ?_|refine AU rfl ?_
        refine wr_call_e rfl ((w5same_ok hE T.toWaS XM9 XS (by omega) (fun l hl => sT l (List.mem_of_mem_take hl))).mono fun r h10 ⟨e10, e11⟩ => ?_)
        subst e10 e11
        rw [eqLL_refl]
        repeat first|(refine BG ?_;first|(refine BH ?_;first|(refine BI ?_;refine BM ?_)|(refine BJ ?_;first|refine BN ?_|refine BO ?_)|refine BV (v_b2s rfl r89) ?_|refine BV (v_b2s rfl r9) ?_|refine BV (v_sne_f rfl rfl rfl) ?_|refine BP ?_)|(refine BK ?_;first|refine BS rfl rfl ?_|refine BT rfl rfl ?_|refine BU rfl ?_)|(refine BL ?_;first|refine BQ ?_)|(refine BR ?_;try simp only [setS]))|refine AA ?_|refine AC ?_|refine AD ?_|refine AE ?_|refine AF rfl rfl ?_|refine AG rfl rfl ?_|refine AH ?_|refine AI ?_|refine AJ ?_|refine AK ?_|refine AL ?_|refine AM ?_|refine AN ?_|refine AO ?_|refine AP ?_|refine AQ rfl ?_|refine AR ?_|refine AS ?_|refine AT rfl ?_|refine AU rfl ?_
        exact round_norm (n - 1) (by omega) (nxt K9 (by omega) (by omega) d9 bx9)
    · repeat first|(refine BG ?_;first|(refine BH ?_;first|(refine BI ?_;refine BM ?_)|(refine BJ ?_;first|refine BN ?_|refine BO ?_)|refine BV (hc6.lenv (by rfl)) ?_|refine BP ?_)|(refine BK ?_;first|refine BS rfl rfl ?_|refine BT rfl rfl ?_|refine BU rfl ?_)|(refine BL ?_;first|refine BQ ?_)|(refine BR ?_;try simp only [setS]))|refine AA ?_|refine AC ?_|refine AD ?_|refine AE ?_|refine AF rfl rfl ?_|refine AG rfl rfl ?_|refine AH ?_|refine AI ?_|refine AJ ?_|refine AK ?_|refine AL ?_|refine AM ?_|refine AN ?_|refine AO ?_|refine AP ?_|refine AQ rfl ?_|refine AR ?_|refine AS ?_|refine AT rfl ?_|refine AU rfl ?_
      exact round_norm (n - 1) (by omega) (nxt K6 hdg hlg6 d6 bx6)
  have e : i = A.length := by omega
  subst e
  rw [List.take_length] at d5
  have hD5 := d5.lt
  repeat first|(refine BG ?_;first|(refine BH ?_;first|(refine BI ?_;refine BM ?_)|(refine BJ ?_;first|refine BN ?_|refine BO ?_)|refine BV (rsA.lenv (by rfl)) ?_|refine BP ?_)|(refine BK ?_;first|refine BS rfl rfl ?_|refine BT rfl rfl ?_|refine BU rfl ?_)|(refine BL ?_;first|refine BQ ?_)|(refine BR ?_;try simp only [setS]))|refine AA ?_|refine AC ?_|refine AD ?_|refine AE ?_|refine AF rfl rfl ?_|refine AG rfl rfl ?_|refine AH ?_|refine AI ?_|refine AJ ?_|refine AK ?_|refine AL ?_|refine AM ?_|refine AN ?_|refine AO ?_|refine AP ?_|refine AQ rfl ?_|refine AR ?_|refine AS ?_|refine AT rfl ?_|refine AU rfl ?_
  refine wr_call_e rfl ((open_w1 hE T.toWaW d5 (by rw [W1.fl]; omega) (by decide) (by decide) (by rw [W1.begin_]; simp only; omega) (W1.whole (s := w0) dA.may dA.bat)).mono fun r h8 ⟨k8, d8, lg2, mv, e8, g8, bx8, XM⟩ => ?_)
  subst e8
  have XA8 := XA5.keep k8 (fun k q q2 => by have q2 : k = h1.n := q2; omega)
  repeat first|(refine BG ?_;first|(refine BH ?_;first|(refine BI ?_;refine BM ?_)|(refine BJ ?_;first|refine BN ?_|refine BO ?_)|refine BP ?_)|(refine BK ?_;first|refine BS rfl rfl ?_|refine BT rfl rfl ?_|refine BU rfl ?_)|(refine BL ?_;first|refine BQ ?_)|(refine BR ?_;try simp only [setS]))|refine AA ?_|refine AC ?_|refine AD ?_|refine AE ?_|refine AF rfl rfl ?_|refine AG rfl rfl ?_|refine AH ?_|refine AI ?_|refine AJ ?_|refine AK ?_|refine AL ?_|refine AM ?_|refine AN ?_|refine AO ?_|refine AP ?_|refine AQ rfl ?_|refine AR ?_|refine AS ?_|refine AT rfl ?_|refine AU rfl ?_
  refine wr_call_e rfl ((w5same_ok hE T.toWaS XM XA8 (by omega) sT).mono fun r h10 ⟨e10, e11⟩ => ?_)
  subst e10 e11
  rw [eqLL_refl]
  repeat first|(refine BG ?_;first|(refine BH ?_;first|(refine BI ?_;refine BM ?_)|(refine BJ ?_;first|refine BN ?_|refine BO ?_)|refine BP ?_)|(refine BK ?_;first|refine BS rfl rfl ?_|refine BT rfl rfl ?_|refine BU rfl ?_)|(refine BL ?_;first|refine BQ ?_)|(refine BR ?_;try simp only [setS]))|refine AA ?_|refine AC ?_|refine AD ?_|refine AE ?_|refine AF rfl rfl ?_|refine AG rfl rfl ?_|refine AH ?_|refine AI ?_|refine AJ ?_|refine AK ?_|refine AL ?_|refine AM ?_|refine AN ?_|refine AO ?_|refine AP ?_|refine AQ rfl ?_|refine AR ?_|refine AS ?_|refine AT rfl ?_|refine AU rfl ?_
  refine wr_call_e rfl ((w_names hE hnames d8 (by rw [W1.fl]; omega)).mono fun r h11 ⟨k11, r11, _⟩ => ?_)
  rw [W1.fl] at r11
  repeat first|(refine BG ?_;first|(refine BH ?_;first|(refine BI ?_;refine BM ?_)|(refine BJ ?_;first|refine BN ?_|refine BO ?_)|refine BV (r11.lenv (by rfl)) ?_|refine BP ?_)|(refine BK ?_;first|refine BS rfl rfl ?_|refine BT rfl rfl ?_|refine BU rfl ?_)|(refine BL ?_;first|refine BQ ?_)|(refine BR ?_;try simp only [setS]))|refine AA ?_|refine AC ?_|refine AD ?_|refine AE ?_|refine AF rfl rfl ?_|refine AG rfl rfl ?_|refine AH ?_|refine AI ?_|refine AJ ?_|refine AK ?_|refine AL ?_|refine AM ?_|refine AN ?_|refine AO ?_|refine AP ?_|refine AQ rfl ?_|refine AR ?_|refine AS ?_|refine AT rfl ?_|refine AU rfl ?_
  refine wr_call_e rfl ((wf_true hE T.known).mono fun r h16 ⟨e16, e17⟩ => ?_)
  subst e16 e17
  repeat first|(refine BG ?_;first|(refine BH ?_;first|(refine BI ?_;refine BM ?_)|(refine BJ ?_;first|refine BN ?_|refine BO ?_)|refine BP ?_)|(refine BK ?_;first|refine BS rfl rfl ?_|refine BT rfl rfl ?_|refine BU rfl ?_)|(refine BL ?_;first|refine BQ ?_)|(refine BR ?_;try simp only [setS]))|refine AA ?_|refine AC ?_|refine AD ?_|refine AE ?_|refine AF rfl rfl ?_|refine AG rfl rfl ?_|refine AH ?_|refine AI ?_|refine AJ ?_|refine AK ?_|refine AL ?_|refine AM ?_|refine AN ?_|refine AO ?_|refine AP ?_|refine AQ rfl ?_|refine AR ?_|refine AS ?_|refine AT rfl ?_|refine AU rfl ?_
  rfl
end
end Am
end Go.Proofs.Ythgcdoahoechhaa
