/- WalOpens: the law, walked. -/
import Derived.Test.YthgcdoahoechhaaWaY
import Derived.Test.YthgcdoahoechhaaMJ
set_option linter.unusedVariables false
set_option linter.unusedSimpArgs false
namespace Go.Proofs.Ythgcdoahoechhaa
namespace Am
open Go.RowKit
set_option maxRecDepth 100000
def b_WalOpens : BF := ⟨56, [0, 1, 2, 3, 4, 10, 11, 12, 21], (.seq (.reg [.mk none (.slot 5) (.mov (.mv (.const (.bool false))))]) (.seq (.reg [.mk none (.env 13) (.mov (.mv (.slot 0))), .mk none (.env 14) (.call 17 [(.env 13), (.const (.int .i64 6))]), .mk none (.env 15) (.call 25 [(.env 14)]), .mk none (.slot 6) (.mov (.mv (.env 15)))]) (.seq (.reg [.mk none (.env 16) (.eff (.bslice 1 0 [(.int .u8 0)] [])), .mk none (.env 17) (.mov (.mv (.slot 6))), .mk none (.env 18) (.eff (.append 1 1 (.env 16) (.env 17))), .mk none (.slot 7) (.mov (.mv (.env 18)))]) (.seq (.seq (.reg [.mk none (.env 19) (.mov (.mv (.slot 7))), .mk none (.env 20) (.mov (.lenv (.env 19))), .mk none (.slot 8) (.mov (.bin .gtr .no (.env 20) (.const (.int .i64 0))))]) (.cond (.slot 8) (.reg [.mk none (.env 22) (.mov (.mv (.slot 7))), .mk none (.env 23) (.mov (.mv (.slot 2))), .mk none (.env 24) (.mov (.mv (.slot 7))), .mk none (.env 25) (.mov (.lenv (.env 24))), .mk none (.env 26) (.mov (.bin .sub .no (.env 25) (.const (.int .i64 1)))), .mk none (.env 27) (.call 12 [(.env 23), (.const (.int .i64 0)), (.env 26)]), .mk none (.env 28) (.mov (.iaddr 1 (.env 22) (.env 27))), .mk none (.env 29) (.mov (.ld1 (.env 28))), .mk none (.env 30) (.mov (.mv (.slot 3))), .mk none (.env 31) (.mov (.bin .xor .no (.env 29) (.env 30))), .mk none (.env 32) (.mov (.iaddr 1 (.env 22) (.env 27))), .mk none .none (.eff (.store 1 (.env 32) (.env 31)))]) .skip)) (.seq (.reg [.mk none (.env 33) (.mov (.mv (.slot 6))), .mk none (.env 34) (.call 26 [(.env 33)]), .mk none (.env 35) (.mov (.mv (.env 34))), .mk (some ((.env 35), true)) (.env 36) (.mov (.mv (.slot 7))), .mk (some ((.env 35), true)) (.env 37) (.call 26 [(.env 36)]), .mk none (.env 38) (.mov (.pick (.env 35) (.env 37) (.const (.bool false)))), .mk none (.env 39) (.mov (.mv (.env 38))), .mk (some ((.env 39), true)) (.env 40) (.mov (.mv (.slot 6))), .mk (some ((.env 39), true)) (.env 41) (.mov (.mv (.slot 4))), .mk (some ((.env 39), true)) (.env 42) (.mov (.mv (.slot 6))), .mk (some ((.env 39), true)) (.env 43) (.mov (.lenv (.env 42))), .mk (some ((.env 39), true)) (.env 44) (.call 12 [(.env 41), (.const (.int .i64 0)), (.env 43)]), .mk (some ((.env 39), true)) (.env 45) (.mov (.sl 1 (.env 40) none (some (.env 44)) none)), .mk (some ((.env 39), true)) (.env 46) (.call 26 [(.env 45)]), .mk none (.env 47) (.mov (.pick (.env 39) (.env 46) (.const (.bool false)))), .mk none (.env 48) (.mov (.mv (.env 47))), .mk (some ((.env 48), true)) (.env 49) (.mov (.mv (.slot 1))), .mk (some ((.env 48), true)) (.env 50) (.call 27 [(.env 49), (.const (.int .i64 80))]), .mk (some ((.env 48), true)) (.env 51) (.call 26 [(.env 50)]), .mk none (.env 52) (.mov (.pick (.env 48) (.env 51) (.const (.bool false)))), .mk none (.env 53) (.mov (.mv (.env 52))), .mk (some ((.env 53), true)) (.env 54) (.call 24 []), .mk none (.env 55) (.mov (.pick (.env 53) (.env 54) (.const (.bool false)))), .mk none (.slot 5) (.mov (.mv (.env 55)))]) .ret))))), [.slot (.slot 5)]⟩
section
variable {E : Nat → Option (Ent MD)}
set_option maxHeartbeats 8000000 in
theorem wopens_ok (hE : ∀ f e, E f = some e → e.plain) (T : WaO E) (hW : E 12 = some (.bc b_Within)) (hlaw : E 5 = some (.bc b_WalOpens)) {h : Hp MD} {va vb : AV} {a : List (List EM)} {b : List UInt8} {at0 cut0 : Int} {tu : Int}
    (ha : Bats h va a (fun _ => True)) (hal : a.length ≤ maxLen) (ha2 : ∀ l ∈ a, l.length ≤ maxLen) (hb : RS h 1 vb b.length (b.map ub)) (hat : I64 at0) (hcu : I64 cut0) :
    WF (lim E) 5 [va, vb, .int .i64 at0, .int .u8 tu, .int .i64 cut0] h fun r _ => r = .bool true := by
  refine wf_bc hE hlaw rfl ?_
  simp only [b_WalOpens, List.map, getS]
  have hmx : (maxLen : Nat) = 9223372036854775807 := rfl
  repeat first|(refine BG ?_;first|(refine BH ?_;first|(refine BI ?_;refine BM ?_)|(refine BJ ?_;first|refine BN ?_|refine BO ?_)|refine BP ?_)|(refine BK ?_;first|refine BS rfl rfl ?_|refine BT rfl rfl ?_|refine BU rfl ?_)|(refine BL ?_;first|refine BQ ?_)|(refine BR ?_;try simp only [setS]))|refine AA ?_|refine AC ?_|refine AD ?_|refine AE ?_|refine AF rfl rfl ?_|refine AG rfl rfl ?_|refine AH ?_|refine AI ?_|refine AJ ?_|refine AK ?_|refine AL ?_|refine AM ?_|refine AN ?_|refine AO ?_|refine AP ?_|refine AQ rfl ?_|refine AR ?_|refine AS ?_|refine AT rfl ?_|refine AU rfl ?_
  refine wr_call_e rfl ((batches_ok hE T.toWaK ha (n := 6) (by omega) hal ha2).mono fun ra h1 ⟨k1, o1⟩ => ?_)
  have dA : Drawn ((a.take 6).map (keepL 5 20 30)) 6 := drawn
  generalize (a.take 6).map (keepL 5 20 30) = A at *
  have XA := o1.bats (G := fun _ => True) (fun _ _ _ => trivial) (fun _ _ => trivial)
  have lA := dA.laid
  have nA := dA.len
  have hb1 := hb.up k1
  repeat first|(refine BG ?_;first|(refine BH ?_;first|(refine BI ?_;refine BM ?_)|(refine BJ ?_;first|refine BN ?_|refine BO ?_)|refine BP ?_)|(refine BK ?_;first|refine BS rfl rfl ?_|refine BT rfl rfl ?_|refine BU rfl ?_)|(refine BL ?_;first|refine BQ ?_)|(refine BR ?_;try simp only [setS]))|refine AA ?_|refine AC ?_|refine AD ?_|refine AE ?_|refine AF rfl rfl ?_|refine AG rfl rfl ?_|refine AH ?_|refine AI ?_|refine AJ ?_|refine AK ?_|refine AL ?_|refine AM ?_|refine AN ?_|refine AO ?_|refine AP ?_|refine AQ rfl ?_|refine AR ?_|refine AS ?_|refine AT rfl ?_|refine AU rfl ?_
  refine wr_call_e rfl ((laid_ok hE T.toWaL XA (by omega) (fun l hl => ⟨(dA.may l hl).1, dA.short l hl⟩)).mono fun rl h2 ⟨⟨k2, p2⟩, o2⟩ => ?_)
  generalize hx : laidB A = x at *
  have hb2 := hb1.up k2
  have kp : Keep NoB h2 (h2.push (.rw [])) := Keep.push _ _ _
  have oz : OS (h2.push (.rw [])) 1 (.slice 1 h2.n 0 0 (some 0)) 0 [] := ⟨rfl, rfl, Nat.zero_lt_one, Nat.lt_succ_self _, [], Hp.push_self _ _, by simp, by simp, by simp⟩
  repeat first|(refine BG ?_;first|(refine BH ?_;first|(refine BI ?_;refine BM ?_)|(refine BJ ?_;first|refine BN ?_|refine BO ?_)|refine BP ?_)|(refine BK ?_;first|refine BS rfl rfl ?_|refine BT rfl rfl ?_|refine BU rfl ?_)|(refine BL ?_;first|refine BQ ?_)|(refine BR ?_;try simp only [setS]))|refine AA ?_|refine AC ?_|refine AD ?_|refine AE ?_|refine AF rfl rfl ?_|refine AG rfl rfl ?_|refine AH ?_|refine AI ?_|refine AJ ?_|refine AK ?_|refine AL ?_|refine AM ?_|refine AN ?_|refine AO ?_|refine AP ?_|refine AQ rfl ?_|refine AR ?_|refine AS ?_|refine AT rfl ?_|refine AU rfl ?_
  refine wr_app_e rfl rfl oz Nat.zero_lt_one (o2.rs.up kp) (by omega) (by omega) fun y h3 a1 a2 a3 => ?_
  rw [Nat.zero_add, List.nil_append] at a1
  have k3 : Keep NoB h2 h3 := kp.own a2 (fun k q => by have q : k = h2.n := q; omega)
  have lo3 : ∀ k, blk y k → h2.n ≤ k := fun k q => by
    rcases a3 k q with q | q
    · have q : k = h2.n := q; omega
    · simp only [push_n] at q; omega
  have x3 := o2.rs.up k3
  have hb3 := hb2.up k3
  have y3 := a1.rs
  have hb0 := hb2
  clear k1 k2 kp p2 XA hb hb1 hb2 ha o1 oz
  repeat first|(refine BG ?_;first|(refine BH ?_;first|(refine BI ?_;refine BM ?_)|(refine BJ ?_;first|refine BN ?_|refine BO ?_)|refine BV (a1.rs.lenv (by rfl)) ?_|refine BV (v_cmp rfl rfl rfl) ?_|refine BP ?_)|(refine BK ?_;first|refine BS rfl rfl ?_|refine BT rfl rfl ?_|refine BU rfl ?_)|(refine BL ?_;first|refine BQ ?_)|(refine BR ?_;try simp only [setS]))|refine AA ?_|refine AC ?_|refine AD ?_|refine AE ?_|refine AF rfl rfl ?_|refine AG rfl rfl ?_|refine AH ?_|refine AI ?_|refine AJ ?_|refine AK ?_|refine AL ?_|refine AM ?_|refine AN ?_|refine AO ?_|refine AP ?_|refine AQ rfl ?_|refine AR ?_|refine AS ?_|refine AT rfl ?_|refine AU rfl ?_
  refine wb_mid (fun t' h' => ∃ (y' s8 : AV) (ys : List UInt8), t' = [va, vb, .int .i64 at0, .int .u8 tu, .int .i64 cut0, .bool false, rl, y', s8] ∧ ys.length = x.length ∧ RS h' 1 y' ys.length (ys.map ub) ∧ RS h' 1 rl x.length (x.map ub) ∧ RS h' 1 vb b.length (b.map ub)) ?_ ?_
  · by_cases h0 : (0 : Int) < x.length
    · rw [decide_eq_true h0]
      repeat first|(refine BG ?_;first|(refine BH ?_;first|(refine BI ?_;refine BM ?_)|(refine BJ ?_;first|refine BN ?_|refine BO ?_)|refine BV (a1.rs.lenv (by rfl)) ?_|refine BP ?_)|(refine BK ?_;first|refine BS rfl rfl ?_|refine BT rfl rfl ?_|refine BU rfl ?_)|(refine BL ?_;first|refine BQ ?_)|(refine BR ?_;try simp only [setS]))|refine AA ?_|refine AC ?_|refine AD ?_|refine AE ?_|refine AF rfl rfl ?_|refine AG rfl rfl ?_|refine AH ?_|refine AI ?_|refine AJ ?_|refine AK ?_|refine AL ?_|refine AM ?_|refine AN ?_|refine AO ?_|refine AP ?_|refine AQ rfl ?_|refine AR ?_|refine AS ?_|refine AT rfl ?_|refine AU rfl ?_
      refine wr_call_e rfl ((within_ok hE hW hat (lo := 0) (hi := (x.length : Int) - 1) (by omega) (by omega) (by omega)).mono fun r h5 ⟨e5, e6⟩ => ?_)
      subst e5 e6
      have hw := withinF_in (n := at0) (lo := 0) (hi := (x.length : Int) - 1) (by omega)
      generalize withinF at0 0 ((x.length : Int) - 1) = j at *
      obtain ⟨k, rfl⟩ := Int.eq_ofNat_of_zero_le hw.1
      have hub := ub_at (l := x) (i := (k : Int)) (by omega) (by omega)
      rw [Int.toNat_natCast] at hub
      obtain ⟨z, hz⟩ := v_xor8 (X := MD) (e := [(30, .int .u8 tu), (29, .int .u8 ((x.getD k 0).toNat : Int))]) (t := []) (q := .no) (x := .env 29) (y := .env 30) rfl rfl
      obtain ⟨g', oo', lc', ca', cb', cl', ce', o6, hbg⟩ := a1.set (k := k) (c := ub z) (by omega)
      rw [hub] at ce'
      rw [bset] at o6
      have hbl : (x.set k z).length = x.length := List.length_set
      rw [← hbl] at o6
      have hgl := lo3 g' hbg
      repeat first|(refine BG ?_;first|(refine BH ?_;first|(refine BI ?_;refine BM ?_)|(refine BJ ?_;first|refine BN ?_|refine BO ?_)|refine BV (a1.rs.lenv (by rfl)) ?_|refine BV (ca' rfl rfl) ?_|refine BV (v_bx cb' rfl ce') ?_|refine BV (hz (hh := h5)) ?_|refine BP ?_)|(refine BK ?_;first|refine BS rfl rfl ?_|refine BT rfl rfl ?_|refine BU rfl ?_)|(refine BL ?_;first|refine BW (ef_bx cb' rfl rfl ⟨rfl, rfl⟩ cl') ?_|refine BQ ?_)|(refine BR ?_;try simp only [setS]))|refine AA ?_|refine AC ?_|refine AD ?_|refine AE ?_|refine AF rfl rfl ?_|refine AG rfl rfl ?_|refine AH ?_|refine AI ?_|refine AJ ?_|refine AK ?_|refine AL ?_|refine AM ?_|refine AN ?_|refine AO ?_|refine AP ?_|refine AQ rfl ?_|refine AR ?_|refine AS ?_|refine AT rfl ?_|refine AU rfl ?_
      have k6 : Keep (OneB g') h5 (h5.put g' (.rw (spl oo' [ub z] lc'))) := Keep.put _ _ _ rfl
      have hx2 : ∀ k, blk rl k → ¬ OneB g' k := fun k q1 q2 => by have := o2.lt k q1; have q2 : k = g' := q2; omega
      have hb2 : ∀ k, blk vb k → ¬ OneB g' k := fun k q1 q2 => by have := hb0.lt k q1; have q2 : k = g' := q2; omega
      exact mid_norm ⟨_, _, _, rfl, hbl, o6.rs, x3.keep k6 hx2, hb3.keep k6 hb2⟩
    · rw [decide_eq_false h0]
      repeat first|(refine BG ?_;first|(refine BH ?_;first|(refine BI ?_;refine BM ?_)|(refine BJ ?_;first|refine BN ?_|refine BO ?_)|refine BP ?_)|(refine BK ?_;first|refine BS rfl rfl ?_|refine BT rfl rfl ?_|refine BU rfl ?_)|(refine BL ?_;first|refine BQ ?_)|(refine BR ?_;try simp only [setS]))|refine AA ?_|refine AC ?_|refine AD ?_|refine AE ?_|refine AF rfl rfl ?_|refine AG rfl rfl ?_|refine AH ?_|refine AI ?_|refine AJ ?_|refine AK ?_|refine AL ?_|refine AM ?_|refine AN ?_|refine AO ?_|refine AP ?_|refine AQ rfl ?_|refine AR ?_|refine AS ?_|refine AT rfl ?_|refine AU rfl ?_
      exact mid_norm ⟨_, _, _, rfl, rfl, y3, x3, hb3⟩
  rintro t' h4 ⟨y', s8, ys, rfl, hyl, hy, hx4, hb4⟩
  repeat first|(refine BG ?_;first|(refine BH ?_;first|(refine BI ?_;refine BM ?_)|(refine BJ ?_;first|refine BN ?_|refine BO ?_)|refine BP ?_)|(refine BK ?_;first|refine BS rfl rfl ?_|refine BT rfl rfl ?_|refine BU rfl ?_)|(refine BL ?_;first|refine BQ ?_)|(refine BR ?_;try simp only [setS]))|refine AA ?_|refine AC ?_|refine AD ?_|refine AE ?_|refine AF rfl rfl ?_|refine AG rfl rfl ?_|refine AH ?_|refine AI ?_|refine AJ ?_|refine AK ?_|refine AL ?_|refine AM ?_|refine AN ?_|refine AO ?_|refine AP ?_|refine AQ rfl ?_|refine AR ?_|refine AS ?_|refine AT rfl ?_|refine AU rfl ?_
  refine wr_call_e rfl ((opens_ok hE T hx4 (by omega)).mono fun r h5 ⟨e5, k5⟩ => ?_)
  subst e5
  repeat first|(refine BG ?_;first|(refine BH ?_;first|(refine BI ?_;refine BM ?_)|(refine BJ ?_;first|refine BN ?_|refine BO ?_)|refine BP ?_)|(refine BK ?_;first|refine BS rfl rfl ?_|refine BT rfl rfl ?_|refine BU rfl ?_)|(refine BL ?_;first|refine BQ ?_)|(refine BR ?_;try simp only [setS]))|refine AA ?_|refine AC ?_|refine AD ?_|refine AE ?_|refine AF rfl rfl ?_|refine AG rfl rfl ?_|refine AH ?_|refine AI ?_|refine AJ ?_|refine AK ?_|refine AL ?_|refine AM ?_|refine AN ?_|refine AO ?_|refine AP ?_|refine AQ rfl ?_|refine AR ?_|refine AS ?_|refine AT rfl ?_|refine AU rfl ?_
  refine wr_call_e rfl ((opens_ok hE T (hy.up k5) (by omega)).mono fun r h6 ⟨e6, k6⟩ => ?_)
  subst e6
  have hx6 := (hx4.up k5).up k6
  have hb6 := (hb4.up k5).up k6
  repeat first|(refine BG ?_;first|(refine BH ?_;first|(refine BI ?_;refine BM ?_)|(refine BJ ?_;first|refine BN ?_|refine BO ?_)|refine BV (hx6.lenv (by rfl)) ?_|refine BP ?_)|(refine BK ?_;first|refine BS rfl rfl ?_|refine BT rfl rfl ?_|refine BU rfl ?_)|(refine BL ?_;first|refine BQ ?_)|(refine BR ?_;try simp only [setS]))|refine AA ?_|refine AC ?_|refine AD ?_|refine AE ?_|refine AF rfl rfl ?_|refine AG rfl rfl ?_|refine AH ?_|refine AI ?_|refine AJ ?_|refine AK ?_|refine AL ?_|refine AM ?_|refine AN ?_|refine AO ?_|refine AP ?_|refine AQ rfl ?_|refine AR ?_|refine AS ?_|refine AT rfl ?_|refine AU rfl ?_
  refine wr_call_e rfl ((within_ok hE hW hcu (lo := 0) (hi := (x.length : Int)) (by omega) (by omega) (by omega)).mono fun r h7 ⟨e5, e6⟩ => ?_)
  subst e5 e6
  have hw := withinF_in (n := cut0) (lo := 0) (hi := (x.length : Int)) (by omega)
  generalize withinF cut0 0 (x.length : Int) = j at *
  obtain ⟨k, rfl⟩ := Int.eq_ofNat_of_zero_le hw.1
  obtain ⟨v2, q1, q2, q3, q4⟩ := hx6.bytes (lo := 0) (hi := k) (Nat.zero_le _) (by omega)
  rw [List.drop_zero, Nat.sub_zero] at q1
  repeat first|(refine BG ?_;first|(refine BH ?_;first|(refine BI ?_;refine BM ?_)|(refine BJ ?_;first|refine BN ?_|refine BO ?_)|refine BV (q4 (by rfl) (.inl ⟨rfl, rfl⟩) (.inr ⟨_, _, rfl, rfl⟩)) ?_|refine BP ?_)|(refine BK ?_;first|refine BS rfl rfl ?_|refine BT rfl rfl ?_|refine BU rfl ?_)|(refine BL ?_;first|refine BQ ?_)|(refine BR ?_;try simp only [setS]))|refine AA ?_|refine AC ?_|refine AD ?_|refine AE ?_|refine AF rfl rfl ?_|refine AG rfl rfl ?_|refine AH ?_|refine AI ?_|refine AJ ?_|refine AK ?_|refine AL ?_|refine AM ?_|refine AN ?_|refine AO ?_|refine AP ?_|refine AQ rfl ?_|refine AR ?_|refine AS ?_|refine AT rfl ?_|refine AU rfl ?_
  refine wr_call_e rfl ((opens_ok hE T q1 (by rw [List.length_take]; omega)).mono fun r h8 ⟨e6, k8⟩ => ?_)
  subst e6
  repeat first|(refine BG ?_;first|(refine BH ?_;first|(refine BI ?_;refine BM ?_)|(refine BJ ?_;first|refine BN ?_|refine BO ?_)|refine BP ?_)|(refine BK ?_;first|refine BS rfl rfl ?_|refine BT rfl rfl ?_|refine BU rfl ?_)|(refine BL ?_;first|refine BQ ?_)|(refine BR ?_;try simp only [setS]))|refine AA ?_|refine AC ?_|refine AD ?_|refine AE ?_|refine AF rfl rfl ?_|refine AG rfl rfl ?_|refine AH ?_|refine AI ?_|refine AJ ?_|refine AK ?_|refine AL ?_|refine AM ?_|refine AN ?_|refine AO ?_|refine AP ?_|refine AQ rfl ?_|refine AR ?_|refine AS ?_|refine AT rfl ?_|refine AU rfl ?_
  refine wr_call_e rfl ((cut_ok hE T.cut (hb6.up k8) (n := 80) (by omega)).mono fun r h9 ⟨e9, c9, _, _⟩ => ?_)
  subst e9
  repeat first|(refine BG ?_;first|(refine BH ?_;first|(refine BI ?_;refine BM ?_)|(refine BJ ?_;first|refine BN ?_|refine BO ?_)|refine BP ?_)|(refine BK ?_;first|refine BS rfl rfl ?_|refine BT rfl rfl ?_|refine BU rfl ?_)|(refine BL ?_;first|refine BQ ?_)|(refine BR ?_;try simp only [setS]))|refine AA ?_|refine AC ?_|refine AD ?_|refine AE ?_|refine AF rfl rfl ?_|refine AG rfl rfl ?_|refine AH ?_|refine AI ?_|refine AJ ?_|refine AK ?_|refine AL ?_|refine AM ?_|refine AN ?_|refine AO ?_|refine AP ?_|refine AQ rfl ?_|refine AR ?_|refine AS ?_|refine AT rfl ?_|refine AU rfl ?_
  refine wr_call_e rfl ((opens_ok hE T c9 (by rw [List.length_take]; omega)).mono fun r h10 ⟨e6, k10⟩ => ?_)
  subst e6
  repeat first|(refine BG ?_;first|(refine BH ?_;first|(refine BI ?_;refine BM ?_)|(refine BJ ?_;first|refine BN ?_|refine BO ?_)|refine BP ?_)|(refine BK ?_;first|refine BS rfl rfl ?_|refine BT rfl rfl ?_|refine BU rfl ?_)|(refine BL ?_;first|refine BQ ?_)|(refine BR ?_;try simp only [setS]))|refine AA ?_|refine AC ?_|refine AD ?_|refine AE ?_|refine AF rfl rfl ?_|refine AG rfl rfl ?_|refine AH ?_|refine AI ?_|refine AJ ?_|refine AK ?_|refine AL ?_|refine AM ?_|refine AN ?_|refine AO ?_|refine AP ?_|refine AQ rfl ?_|refine AR ?_|refine AS ?_|refine AT rfl ?_|refine AU rfl ?_
  refine wr_call_e rfl ((wf_true hE T.known).mono fun r h16 ⟨e16, e17⟩ => ?_)
  subst e16 e17
  repeat first|(refine BG ?_;first|(refine BH ?_;first|(refine BI ?_;refine BM ?_)|(refine BJ ?_;first|refine BN ?_|refine BO ?_)|refine BP ?_)|(refine BK ?_;first|refine BS rfl rfl ?_|refine BT rfl rfl ?_|refine BU rfl ?_)|(refine BL ?_;first|refine BQ ?_)|(refine BR ?_;try simp only [setS]))|refine AA ?_|refine AC ?_|refine AD ?_|refine AE ?_|refine AF rfl rfl ?_|refine AG rfl rfl ?_|refine AH ?_|refine AI ?_|refine AJ ?_|refine AK ?_|refine AL ?_|refine AM ?_|refine AN ?_|refine AO ?_|refine AP ?_|refine AQ rfl ?_|refine AR ?_|refine AS ?_|refine AT rfl ?_|refine AU rfl ?_
  rfl
end
end Am
end Go.Proofs.Ythgcdoahoechhaa
