/- Layer 5: opens: a file that has any bytes. -/
import Derived.Test.YthgcdoahoechhaaWaX
set_option linter.unusedVariables false
set_option linter.unusedSimpArgs false
namespace Go.Proofs.Ythgcdoahoechhaa
namespace Am
open Go.RowKit
set_option maxRecDepth 100000
theorem v_pnn {X : Type} {e : En} {t : List AV} {h : Hp X} {x : Od} {g o : Nat} (hx : x.ev e t = .ptr g o) : (Mv.bin .neq .ptr x (.const .nilp)).ev e t h = some (.bool true) := by
  show bin .neq .ptr (x.ev e t) .nilp = _
  rw [hx]; rfl
theorem pa_last {α : Type} {l : List α} {x : α} {q : Nat} (h : l.length = q) : (l ++ [x])[q]? = some x := by subst h; simp
theorem pa_skip {α : Type} {l : List α} {x y : α} {q : Nat} (h : l[q]? = some y) : (l ++ [x])[q]? = some y := by rw [List.getElem?_append_left (List.getElem?_eq_some_iff.1 h).1]; exact h
def b_w5opens : BF := ⟨128, [0, 2, 3, 4, 5, 6, 7, 8, 9, 10, 12, 13, 14, 15, 16, 21, 35, 62, 74], (.seq (.reg [.mk none (.slot 1) (.mov (.mv (.const (.bool false))))]) (.seq (.reg [.mk none (.env 18) (.mov (.mv (.slot 0))), .mk none (.env 19) (.call 82 [(.const (.str [119, 55])), (.env 18)]), .mk none (.slot 2) (.mov (.mv (.env 19)))]) (.seq (.seq (.reg [.mk none (.env 20) (.mov (.mv (.slot 2))), .mk none (.slot 15) (.mov (.bin .eql .ptr (.env 20) (.const .nilp)))]) (.cond (.slot 15) (.seq (.reg [.mk none (.slot 1) (.mov (.mv (.const (.bool false))))]) .ret) .skip)) (.seq (.reg [.mk none (.env 23) (.mov (.mv (.slot 2))), .mk none (.env 24) (.call 19 [(.env 23), (.const (.str [119, 55]))]), .mk none (.env 22) (.mov (.mv (.env 24))), .mk none (.env 25) (.mov (.ext 0 (.env 22))), .mk none (.env 26) (.mov (.ext 1 (.env 22))), .mk none (.env 27) (.mov (.ext 2 (.env 22))), .mk none (.slot 3) (.mov (.mv (.env 25))), .mk none (.slot 4) (.mov (.mv (.env 26))), .mk none (.slot 5) (.mov (.mv (.env 27)))]) (.seq (.reg [.mk none (.env 29) (.mov (.mv (.slot 0))), .mk none (.env 30) (.call 45 [(.env 29)]), .mk none (.env 28) (.mov (.mv (.env 30))), .mk none (.env 31) (.mov (.ext 0 (.env 28))), .mk none (.env 32) (.mov (.ext 1 (.env 28))), .mk none (.env 33) (.mov (.ext 2 (.env 28))), .mk none (.slot 6) (.mov (.mv (.env 31))), .mk none (.slot 7) (.mov (.mv (.env 32))), .mk none (.slot 8) (.mov (.mv (.env 33)))]) (.seq (.seq (.reg [.mk none (.env 34) (.mov (.mv (.slot 8))), .mk none (.slot 16) (.mov (.notb (.env 34)))]) (.cond (.slot 16) (.seq (.reg [.mk none (.env 37) (.mov (.mv (.slot 2))), .mk none (.env 38) (.call 32 [(.env 37), (.const (.str [119, 55]))]), .mk none (.env 36) (.mov (.mv (.env 38))), .mk none (.env 39) (.mov (.ext 0 (.env 36))), .mk none (.env 40) (.mov (.ext 1 (.env 36))), .mk none (.slot 9) (.mov (.mv (.env 39))), .mk none (.env 11) (.mov (.mv (.env 40)))]) (.seq (.reg [.mk none (.env 41) (.mov (.mv (.slot 3))), .mk none (.env 42) (.mov (.bin .eql .ptr (.env 41) (.const .nilp))), .mk none (.env 43) (.mov (.mv (.env 42))), .mk (some ((.env 43), true)) (.env 44) (.mov (.mv (.slot 4))), .mk (some ((.env 43), true)) (.env 45) (.mov (.lenv (.env 44))), .mk (some ((.env 43), true)) (.env 46) (.mov (.bin .eql .no (.env 45) (.const (.int .i64 0)))), .mk none (.env 47) (.mov (.pick (.env 43) (.env 46) (.const (.bool false)))), .mk none (.env 48) (.mov (.mv (.env 47))), .mk (some ((.env 48), true)) (.env 49) (.mov (.mv (.slot 5))), .mk (some ((.env 48), true)) (.env 50) (.mov (.bin .eql .no (.env 49) (.const (.int .i64 14)))), .mk none (.env 51) (.mov (.pick (.env 48) (.env 50) (.const (.bool false)))), .mk none (.env 52) (.mov (.mv (.env 51))), .mk (some ((.env 52), true)) (.env 53) (.mov (.mv (.slot 9))), .mk (some ((.env 52), true)) (.env 54) (.mov (.b2s (.env 53))), .mk (some ((.env 52), true)) (.env 55) (.mov (.mv (.slot 0))), .mk (some ((.env 52), true)) (.env 56) (.mov (.b2s (.env 55))), .mk (some ((.env 52), true)) (.env 57) (.mov (.bin .eql .no (.env 54) (.env 56))), .mk none (.env 58) (.mov (.pick (.env 52) (.env 57) (.const (.bool false)))), .mk none (.slot 1) (.mov (.mv (.env 58)))]) .ret)) .skip)) (.seq (.reg [.mk none (.slot 10) (.mov (.mv (.const .snil)))]) (.seq (.seq (.reg [.mk none (.slot 11) (.mov (.mv (.const (.int .i64 0))))]) (.block 0 (.loop (.seq (.seq (.reg [.mk none (.env 59) (.mov (.mv (.slot 11))), .mk none (.env 60) (.mov (.mv (.slot 6))), .mk none (.env 61) (.mov (.lenv (.env 60))), .mk none (.slot 17) (.mov (.bin .lss .no (.env 59) (.env 61)))]) (.cond (.slot 17) .skip (.exit 0))) (.seq (.block 1 (.seq (.reg [.mk none (.env 66) (.mov (.mv (.slot 6))), .mk none (.env 67) (.mov (.mv (.slot 11))), .mk none (.env 68) (.mov (.iaddr 1 (.env 66) (.env 67))), .mk none (.env 69) (.mov (.ld1 (.env 68))), .mk none (.env 70) (.call 83 [(.env 69)]), .mk none (.env 65) (.mov (.mv (.env 70))), .mk none (.env 71) (.mov (.ext 0 (.env 65))), .mk none (.env 72) (.mov (.ext 1 (.env 65))), .mk none (.slot 12) (.mov (.mv (.env 71))), .mk none (.slot 13) (.mov (.mv (.env 72)))]) (.seq (.seq (.reg [.mk none (.env 73) (.mov (.mv (.slot 13))), .mk none (.slot 18) (.mov (.notb (.env 73)))]) (.cond (.slot 18) (.seq (.reg [.mk none (.env 75) (.mov (.mv (.slot 3))), .mk none (.env 76) (.mov (.bin .eql .ptr (.env 75) (.const .nilp))), .mk none (.env 77) (.mov (.mv (.env 76))), .mk (some ((.env 77), true)) (.env 78) (.mov (.mv (.slot 4))), .mk (some ((.env 77), true)) (.env 79) (.mov (.lenv (.env 78))), .mk (some ((.env 77), true)) (.env 80) (.mov (.bin .eql .no (.env 79) (.const (.int .i64 0)))), .mk none (.env 81) (.mov (.pick (.env 77) (.env 80) (.const (.bool false)))), .mk none (.env 82) (.mov (.mv (.env 81))), .mk (some ((.env 82), true)) (.env 83) (.mov (.mv (.slot 5))), .mk (some ((.env 82), true)) (.env 84) (.mov (.bin .eql .no (.env 83) (.const (.int .i64 14)))), .mk none (.env 85) (.mov (.pick (.env 82) (.env 84) (.const (.bool false)))), .mk none (.slot 1) (.mov (.mv (.env 85)))]) .ret) .skip)) (.reg [.mk none (.env 86) (.mov (.mv (.slot 10))), .mk none (.env 87) (.mov (.mv (.slot 12))), .mk none (.env 88) (.eff (.bslice 1 1 [.snil] [(0, 1, (.env 87))])), .mk none (.env 89) (.eff (.append 1 24 (.env 86) (.env 88))), .mk none (.slot 10) (.mov (.mv (.env 89)))])))) (.reg [.mk none (.env 63) (.mov (.mv (.slot 11))), .mk none (.env 64) (.mov (.bin .add .no (.env 63) (.const (.int .i64 1)))), .mk none (.slot 11) (.mov (.mv (.env 64)))])))))) (.seq (.reg [.mk none (.env 91) (.mov (.mv (.slot 2))), .mk none (.env 92) (.call 32 [(.env 91), (.const (.str [119, 55]))]), .mk none (.env 90) (.mov (.mv (.env 92))), .mk none (.env 93) (.mov (.ext 0 (.env 90))), .mk none (.env 94) (.mov (.ext 1 (.env 90))), .mk none (.slot 14) (.mov (.mv (.env 93))), .mk none (.env 17) (.mov (.mv (.env 94)))]) (.seq (.dreg [(.mk none (.env 95) (.mov (.mv (.slot 3))), []), (.mk none (.env 96) (.mov (.bin .neq .ptr (.env 95) (.const .nilp))), []), (.mk none (.env 97) (.mov (.mv (.env 96))), []), (.mk (some ((.env 97), true)) (.env 98) (.mov (.mv (.slot 5))), []), (.mk (some ((.env 97), true)) (.env 99) (.mov (.bin .eql .no (.env 98) (.const (.int .i64 0)))), []), (.mk none (.env 100) (.mov (.pick (.env 97) (.env 99) (.const (.bool false)))), []), (.mk none (.env 101) (.mov (.mv (.env 100))), []), (.mk (some ((.env 101), true)) (.env 102) (.mov (.mv (.slot 4))), []), (.mk (some ((.env 101), true)) (.env 103) (.mov (.mv (.slot 10))), []), (.mk (some ((.env 101), true)) (.env 104) (.call 23 [(.env 102), (.env 103)]), []), (.mk none (.env 105) (.mov (.pick (.env 101) (.env 104) (.const (.bool false)))), []), (.mk none (.env 106) (.mov (.mv (.env 105))), []), (.mk (some ((.env 106), true)) (.env 107) (.mov (.mv (.slot 3))), []), (.mk (some ((.env 106), true)) (.env 109) (.mov (.mv (.slot 10))), []), (.mk (some ((.env 106), true)) (.env 110) (.mov (.lenv (.env 109))), []), (.mk (some ((.env 106), true)) (.env 108) (.call 31 [(.env 107)]), [13, 14]), (.mk (some ((.env 106), true)) (.env 111) (.mov (.bin .eql .no (.env 108) (.env 110))), []), (.mk none (.env 112) (.mov (.pick (.env 106) (.env 111) (.const (.bool false)))), []), (.mk none (.env 113) (.mov (.mv (.env 112))), []), (.mk (some ((.env 113), true)) (.env 114) (.mov (.mv (.slot 14))), []), (.mk (some ((.env 113), true)) (.env 115) (.mov (.b2s (.env 114))), []), (.mk (some ((.env 113), true)) (.env 116) (.mov (.mv (.slot 0))), []), (.mk (some ((.env 113), true)) (.env 117) (.mov (.mv (.slot 7))), []), (.mk (some ((.env 113), true)) (.env 118) (.mov (.sl 1 (.env 116) none (some (.env 117)) none)), []), (.mk (some ((.env 113), true)) (.env 119) (.mov (.b2s (.env 118))), []), (.mk (some ((.env 113), true)) (.env 120) (.mov (.bin .eql .no (.env 115) (.env 119))), []), (.mk none (.env 121) (.mov (.pick (.env 113) (.env 120) (.const (.bool false)))), []), (.mk none (.env 122) (.mov (.mv (.env 121))), []), (.mk (some ((.env 122), true)) (.env 123) (.mov (.mv (.slot 2))), []), (.mk (some ((.env 122), true)) (.env 125) (.mov (.mv (.slot 7))), []), (.mk (some ((.env 122), true)) (.env 124) (.call 71 [(.env 123), (.const (.str [119, 55]))]), [29]), (.mk (some ((.env 122), true)) (.env 126) (.mov (.bin .eql .no (.env 124) (.env 125))), []), (.mk none (.env 127) (.mov (.pick (.env 122) (.env 126) (.const (.bool false)))), []), (.mk none (.slot 1) (.mov (.mv (.env 127))), [])]) .ret)))))))))), [.slot (.slot 1)]⟩
def w7 : List UInt8 := [119, 55]
structure WaO (E : Nat → Option (Ent MD)) : Prop extends WaV E, WaQ4 E where
  opens : E 26 = some (.bc b_w5opens)
  r4all : E 45 = some (.bc b_ref4All)
  synced : E 71 = some (.nat n_synced)
section
variable {E : Nat → Option (Ent MD)}
set_option maxHeartbeats 1000000 in
theorem opens_ok (hE : ∀ f e, E f = some e → e.plain) (T : WaO E) {h : Hp MD} {v : AV} {bs : List UInt8} (hr : RS h 1 v bs.length (bs.map ub)) (hb : bs.length ≤ 16777216) :
    WF (lim E) 26 [v] h fun r h' => r = .bool true ∧ Keep NoB h h' := by
  refine wf_bc hE T.opens rfl ?_
  simp only [b_w5opens, List.map, getS]
  have hmx : (maxLen : Nat) = 9223372036854775807 := rfl
  repeat first|(refine BG ?_;first|(refine BH ?_;first|(refine BI ?_;refine BM ?_)|(refine BJ ?_;first|refine BN ?_|refine BO ?_)|refine BP ?_)|(refine BK ?_;first|refine BS rfl rfl ?_|refine BT rfl rfl ?_|refine BU rfl ?_)|(refine BL ?_;first|refine BQ ?_)|(refine BR ?_;try simp only [setS]))|refine AA ?_|refine AC ?_|refine AD ?_|refine AE ?_|refine AF rfl rfl ?_|refine AG rfl rfl ?_|refine AH ?_|refine AI ?_|refine AJ ?_|refine AK ?_|refine AL ?_|refine AM ?_|refine AN ?_|refine AO ?_|refine AP ?_|refine AQ rfl ?_|refine AR ?_|refine AS ?_|refine AT rfl ?_|refine AU rfl ?_
  refine wr_call_e rfl ((w5on_ok hE T.toWaV (s := w7) (by decide) hr hb).mono fun r h1 ⟨e1, d1, k1⟩ => ?_)
  subst e1
  have hD := d1.lt
  have oneB : ∀ {h0 h' : Hp MD}, Keep NoB h h0 → Keep (OneB h.n) h0 h' → Keep NoB h h' := fun a b => a.own b (fun k q => by have q : k = h.n := q; omega)
  repeat first|(refine BG ?_;first|(refine BH ?_;first|(refine BI ?_;refine BM ?_)|(refine BJ ?_;first|refine BN ?_|refine BO ?_)|refine BV (v_pnil rfl) ?_|refine BP ?_)|(refine BK ?_;first|refine BS rfl rfl ?_|refine BT rfl rfl ?_|refine BU rfl ?_)|(refine BL ?_;first|refine BQ ?_)|(refine BR ?_;try simp only [setS]))|refine AA ?_|refine AC ?_|refine AD ?_|refine AE ?_|refine AF rfl rfl ?_|refine AG rfl rfl ?_|refine AH ?_|refine AI ?_|refine AJ ?_|refine AK ?_|refine AL ?_|refine AM ?_|refine AN ?_|refine AO ?_|refine AP ?_|refine AQ rfl ?_|refine AR ?_|refine AS ?_|refine AT rfl ?_|refine AU rfl ?_
  refine wr_call_e rfl ((open_ok hE T.toWaW (s := w7) d1 (by rw [W1.fl]; omega) (by decide) (by decide) (by rw [W1.begin_]; simp only; omega)).mono fun r h2 ⟨k2, d2, q2⟩ => ?_)
  have hr2 := (hr.up k1).keep k2 (fun k q q2 => by have := hr.lt k q; have q2 : k = h.n := q2; omega)
  have K2 := oneB k1 k2
  have hal := allG_len (bs.length + 1) bs
  have har := allG_le (bs.length + 1) bs
  have e0 : openF (W1 w7 16777216 0 false bs bs.length) w7 = if (allG (bs.length + 1) bs).2.2 = false then (.error 14, W1 w7 16777216 0 false bs bs.length) else match allE (allG (bs.length + 1) bs).1 with
      | none => (.error 14, W1 w7 16777216 0 false (bs.take (allG (bs.length + 1) bs).2.1) (allG (bs.length + 1) bs).2.1)
      | some ls => (.ok ls, W1 w7 16777216 0 false (bs.take (allG (bs.length + 1) bs).2.1) (allG (bs.length + 1) bs).2.1) := by
    unfold openF
    rw [W1.begin_]
    simp only
    rw [W1.cutF]
    simp
    rfl
  rw [e0] at d2 q2
  have fin : ∃ (lv mv : AV) (ev : Int), r = .tup [lv, mv, .int .i64 ev] := by
    revert q2
    split
    · intro q; exact ⟨_, _, _, q⟩
    · intro q
      obtain ⟨g, m, q, _⟩ := q
      exact ⟨_, _, _, q⟩
  obtain ⟨lv, mv, ev, rfl⟩ := fin
  repeat first|(refine BG ?_;first|(refine BH ?_;first|(refine BI ?_;refine BM ?_)|(refine BJ ?_;first|refine BN ?_|refine BO ?_)|refine BP ?_)|(refine BK ?_;first|refine BS rfl rfl ?_|refine BT rfl rfl ?_|refine BU rfl ?_)|(refine BL ?_;first|refine BQ ?_)|(refine BR ?_;try simp only [setS]))|refine AA ?_|refine AC ?_|refine AD ?_|refine AE ?_|refine AF rfl rfl ?_|refine AG rfl rfl ?_|refine AH ?_|refine AI ?_|refine AJ ?_|refine AK ?_|refine AL ?_|refine AM ?_|refine AN ?_|refine AO ?_|refine AP ?_|refine AQ rfl ?_|refine AR ?_|refine AS ?_|refine AT rfl ?_|refine AU rfl ?_
  refine wr_call_e rfl ((r4all_ok hE T.r4all T.r2get hr2 (by omega)).mono fun r h3 ⟨o, e3, k3, rc⟩ => ?_)
  subst e3
  have d3 := d2.up k3
  have hr3 := hr2.up k3
  have K3 := K2.and k3
  generalize allG (bs.length + 1) bs = A at *
  obtain ⟨recs, en, ok⟩ := A
  simp only at rc hal har d3 q2 ⊢
  cases ok with
  | false =>
    rw [if_pos rfl] at d3 q2
    have q2 : AV.tup [lv, mv, .int .i64 ev] = .tup [.nilp, .snil, .int .i64 14] := q2
    simp only [AV.tup.injEq, List.cons.injEq, AV.int.injEq, and_true, true_and] at q2
    obtain ⟨rfl, rfl, rfl⟩ := q2
    repeat first|(refine BG ?_;first|(refine BH ?_;first|(refine BI ?_;refine BM ?_)|(refine BJ ?_;first|refine BN ?_|refine BO ?_)|refine BP ?_)|(refine BK ?_;first|refine BS rfl rfl ?_|refine BT rfl rfl ?_|refine BU rfl ?_)|(refine BL ?_;first|refine BQ ?_)|(refine BR ?_;try simp only [setS]))|refine AA ?_|refine AC ?_|refine AD ?_|refine AE ?_|refine AF rfl rfl ?_|refine AG rfl rfl ?_|refine AH ?_|refine AI ?_|refine AJ ?_|refine AK ?_|refine AL ?_|refine AM ?_|refine AN ?_|refine AO ?_|refine AP ?_|refine AQ rfl ?_|refine AR ?_|refine AS ?_|refine AT rfl ?_|refine AU rfl ?_
    refine wr_call_e rfl ((w_read hE T.dread d3 (by rw [W1.fl]; omega) W1.get).mono fun r h4 ⟨v4, e4, k4, r4, _⟩ => ?_)
    subst e4
    have hr4 := hr3.up k4
    repeat first|(refine BG ?_;first|(refine BH ?_;first|(refine BI ?_;refine BM ?_)|(refine BJ ?_;first|refine BN ?_|refine BO ?_)|refine BV (v_b2s rfl r4) ?_|refine BV (v_b2s rfl hr4) ?_|refine BV (v_seq_t rfl rfl rfl) ?_|refine BP ?_)|(refine BK ?_;first|refine BS rfl rfl ?_|refine BT rfl rfl ?_|refine BU rfl ?_)|(refine BL ?_;first|refine BQ ?_)|(refine BR ?_;try simp only [setS]))|refine AA ?_|refine AC ?_|refine AD ?_|refine AE ?_|refine AF rfl rfl ?_|refine AG rfl rfl ?_|refine AH ?_|refine AI ?_|refine AJ ?_|refine AK ?_|refine AL ?_|refine AM ?_|refine AN ?_|refine AO ?_|refine AP ?_|refine AQ rfl ?_|refine AR ?_|refine AS ?_|refine AT rfl ?_|refine AU rfl ?_
    exact ⟨rfl, K3.and k4⟩
  | true =>
    rw [if_neg (by decide)] at d3 q2
    have n1 := k1.n
    have n2 := k2.n
    have n3 := k3.n
    obtain ⟨D, hD2⟩ : ∃ D : MD, D = W1 w7 16777216 0 false (bs.take en) en := ⟨_, rfl⟩
    have hO : Ob h3 h.n (W1 w7 16777216 0 false (bs.take en) en) ∧ ((allE recs = none ∧ lv = .nilp ∧ mv = .snil ∧ ev = 14) ∨ ∃ ls lg, allE recs = some ls ∧ lv = .ptr lg 0 ∧ ev = 0 ∧ lg < h3.n ∧ Bx h3 lg [.ptr h.n 0, .str w7, .int .i64 ls.length] ∧ Bats h3 mv ls (fun k => h1.n ≤ k ∧ k < lg)) := by
      cases ha : allE recs with
      | none =>
        rw [ha] at d3 q2
        have q2 : AV.tup [lv, mv, .int .i64 ev] = .tup [.nilp, .snil, .int .i64 14] := q2
        simp only [AV.tup.injEq, List.cons.injEq, AV.int.injEq, and_true, true_and] at q2
        exact ⟨d3, .inl ⟨rfl, q2.1, q2.2.1, q2.2.2⟩⟩
      | some ls =>
        rw [ha] at d3 q2
        obtain ⟨lg, m, q3, q4, q5, q6⟩ := q2
        simp only [AV.tup.injEq, List.cons.injEq, AV.int.injEq, and_true, true_and] at q3
        obtain ⟨rfl, rfl, rfl⟩ := q3
        exact ⟨d3, .inr ⟨ls, lg, rfl, rfl, rfl, (q5.up k3).lt, q5.up k3, q6.up k3⟩⟩
    clear q2 d3
    obtain ⟨d3, hO⟩ := hO
    obtain ⟨cells, ro, lo, hrc⟩ := rc
    repeat first|(refine BG ?_;first|(refine BH ?_;first|(refine BI ?_;refine BM ?_)|(refine BJ ?_;first|refine BN ?_|refine BO ?_)|refine BP ?_)|(refine BK ?_;first|refine BS rfl rfl ?_|refine BT rfl rfl ?_|refine BU rfl ?_)|(refine BL ?_;first|refine BQ ?_)|(refine BR ?_;try simp only [setS]))|refine AA ?_|refine AC ?_|refine AD ?_|refine AE ?_|refine AF rfl rfl ?_|refine AG rfl rfl ?_|refine AH ?_|refine AI ?_|refine AJ ?_|refine AK ?_|refine AL ?_|refine AM ?_|refine AN ?_|refine AO ?_|refine AP ?_|refine AQ rfl ?_|refine AR ?_|refine AS ?_|refine AT rfl ?_|refine AU rfl ?_
    refine wb_loop (fun n t hh => ∃ (i : Nat) (done : List (List EM)) (wv s9 s12 s13 s14 s17 s18 : AV), i ≤ recs.length ∧ done.length = i ∧ n = recs.length - i ∧ Keep NoB h3 hh ∧ OB hh wv done h3.n (fun k => h3.n ≤ k) ∧ (∀ (j : Nat) r e, recs[j]? = some r → done[j]? = some e → frE r = some e) ∧
      t = [v, .bool false, .ptr h.n 0, lv, mv, .int .i64 ev, o, .int .i64 en, .bool true, s9, wv, .int .i64 i, s12, s13, s14, .bool false, .bool false, s17, s18]) ?_ recs.length _ _ ⟨0, [], .snil, _, _, _, _, _, _, by omega, rfl, by omega, Keep.refl _ _, OB.nil, by simp, rfl⟩
    rintro n t hh ⟨i, done, wv, s9, s12, s13, s14, s17, s18, hi, hdl, hm, K, ob, hdone, rfl⟩
    have nK := K.n
    have ro5 := (ro.up K).rs
    by_cases hlt : i < recs.length
    · obtain ⟨r, he⟩ : ∃ r, recs[i]? = some r := ⟨_, List.getElem?_eq_getElem hlt⟩
      obtain ⟨c, hc, hcs, rcc, hcb⟩ := hrc i r he
      have rc3 := rcc.up K
      obtain ⟨g, og, pa, la⟩ := ro5.at2 hlt
      have lc : ∀ {e : En} {t : List AV} {x : Od}, x.ev e t = .ptr g og → (Mv.ld1 x).ev e t hh = some c := fun {_ _ _} hx => by rw [la (Keep.refl NoB hh) (fun _ _ q => q) hx]; exact hc
      have hrb := har r (List.mem_of_getElem? he)
      repeat first|(refine BG ?_;first|(refine BH ?_;first|(refine BI ?_;refine BM ?_)|(refine BJ ?_;first|refine BN ?_|refine BO ?_)|refine BV (ro5.lenv (by rfl)) ?_|refine BV (pa rfl rfl) ?_|refine BV (lc rfl) ?_|refine BP ?_)|(refine BK ?_;first|refine BS rfl rfl ?_|refine BT rfl rfl ?_|refine BU rfl ?_)|(refine BL ?_;first|refine BQ ?_)|(refine BR ?_;try simp only [setS]))|refine AA ?_|refine AC ?_|refine AD ?_|refine AE ?_|refine AF rfl rfl ?_|refine AG rfl rfl ?_|refine AH ?_|refine AI ?_|refine AJ ?_|refine AK ?_|refine AL ?_|refine AM ?_|refine AN ?_|refine AO ?_|refine AP ?_|refine AQ rfl ?_|refine AR ?_|refine AS ?_|refine AT rfl ?_|refine AU rfl ?_
      refine wr_call_e rfl ((r4entries_ok hE T.toWaQ4 rc3 (by omega)).mono fun w h6 ⟨k6, e6⟩ => ?_)
      rw [r4E_frE] at e6
      cases hf : frE r with
      | none =>
        rw [hf] at e6
        have e6 : w = .tup [.snil, .bool false] := e6
        subst e6
        rcases hO with ⟨_, rfl, rfl, rfl⟩ | ⟨ls, lg, ha, _⟩
        · repeat first|(refine BG ?_;first|(refine BH ?_;first|(refine BI ?_;refine BM ?_)|(refine BJ ?_;first|refine BN ?_|refine BO ?_)|refine BP ?_)|(refine BK ?_;first|refine BS rfl rfl ?_|refine BT rfl rfl ?_|refine BU rfl ?_)|(refine BL ?_;first|refine BQ ?_)|(refine BR ?_;try simp only [setS]))|refine AA ?_|refine AC ?_|refine AD ?_|refine AE ?_|refine AF rfl rfl ?_|refine AG rfl rfl ?_|refine AH ?_|refine AI ?_|refine AJ ?_|refine AK ?_|refine AL ?_|refine AM ?_|refine AN ?_|refine AO ?_|refine AP ?_|refine AQ rfl ?_|refine AR ?_|refine AS ?_|refine AT rfl ?_|refine AU rfl ?_
          exact ⟨rfl, (K3.and K).and k6⟩
        · rw [allE_none he hf] at ha
          cases ha
      | some l =>
        rw [hf] at e6
        obtain ⟨u, e6, ef⟩ : ∃ u, w = .tup [u, .bool true] ∧ EntsF h6 u l (fun k => hh.n ≤ k) := e6
        subst e6
        have oln := ob.lt
        have olo := ob.lo
        have n6 := k6.n
        have ef2 : EntsF h6 u l (fun k => h3.n ≤ k ∧ ¬ blk wv k) := ef.on (fun k q => ⟨by omega, fun q2 => by have := oln k q2; omega⟩)
        obtain ⟨cs, p1, p2, p3⟩ := (ob.up k6).next ef2 (by omega)
        repeat first|(refine BG ?_;first|(refine BH ?_;first|(refine BI ?_;refine BM ?_)|(refine BJ ?_;first|refine BN ?_|refine BO ?_)|refine BP ?_)|(refine BK ?_;first|refine BS rfl rfl ?_|refine BT rfl rfl ?_|refine BU rfl ?_)|(refine BL ?_;first|refine BW (ef_bs1' rfl ef2.one.1 ef2.one.2) ?_|refine BQ ?_)|(refine BR ?_;try simp only [setS]))|refine AA ?_|refine AC ?_|refine AD ?_|refine AE ?_|refine AF rfl rfl ?_|refine AG rfl rfl ?_|refine AH ?_|refine AI ?_|refine AJ ?_|refine AK ?_|refine AL ?_|refine AM ?_|refine AN ?_|refine AO ?_|refine AP ?_|refine AQ rfl ?_|refine AR ?_|refine AS ?_|refine AT rfl ?_|refine AU rfl ?_
        refine wr_app_e rfl rfl p1 (by decide) p2 (by omega) (by omega) fun v' h' a1 a2 a3 => ?_
        obtain ⟨p4, p5⟩ := p3 v' h' a1 a2 a3
        repeat first|(refine BG ?_;first|(refine BH ?_;first|(refine BI ?_;refine BM ?_)|(refine BJ ?_;first|refine BN ?_|refine BO ?_)|refine BP ?_)|(refine BK ?_;first|refine BS rfl rfl ?_|refine BT rfl rfl ?_|refine BU rfl ?_)|(refine BL ?_;first|refine BQ ?_)|(refine BR ?_;try simp only [setS]))|refine AA ?_|refine AC ?_|refine AD ?_|refine AE ?_|refine AF rfl rfl ?_|refine AG rfl rfl ?_|refine AH ?_|refine AI ?_|refine AJ ?_|refine AK ?_|refine AL ?_|refine AM ?_|refine AN ?_|refine AO ?_|refine AP ?_|refine AQ rfl ?_|refine AR ?_|refine AS ?_|refine AT rfl ?_|refine AU rfl ?_
        rw [show ((i : Int) + 1) = ((i + 1 : Nat) : Int) by omega]
        refine round_norm (n - 1) (by omega) ⟨i + 1, done ++ [l], v', _, _, _, _, _, _, by omega, by rw [List.length_append]; simp [hdl], by omega, (K.and k6).own p5 olo, p4, ?_, rfl⟩
        intro j r' e' h1 h2
        by_cases hj : j < done.length
        · rw [List.getElem?_append_left hj] at h2
          exact hdone j r' e' h1 h2
        · have h3 := (List.getElem?_eq_some_iff.1 h2).1
          rw [List.length_append, List.length_singleton] at h3
          have h4 : j = done.length := by omega
          subst h4
          rw [List.getElem?_append_right (Nat.le_refl _), Nat.sub_self] at h2
          simp at h2
          subst h2
          rw [hdl, he] at h1
          cases h1
          exact hf
    · have hall := allE_some (l := recs) (ls := done) (by omega) hdone
      rcases hO with ⟨ha, _⟩ | ⟨ls, lg, ha, rfl, rfl, hlg, bxl, XM⟩
      · rw [hall] at ha
        cases ha
      rw [hall] at ha
      cases ha
      have d5 := d3.up K
      repeat first|(refine BG ?_;first|(refine BH ?_;first|(refine BI ?_;refine BM ?_)|(refine BJ ?_;first|refine BN ?_|refine BO ?_)|refine BV (ro5.lenv (by rfl)) ?_|refine BP ?_)|(refine BK ?_;first|refine BS rfl rfl ?_|refine BT rfl rfl ?_|refine BU rfl ?_)|(refine BL ?_;first|refine BQ ?_)|(refine BR ?_;try simp only [setS]))|refine AA ?_|refine AC ?_|refine AD ?_|refine AE ?_|refine AF rfl rfl ?_|refine AG rfl rfl ?_|refine AH ?_|refine AI ?_|refine AJ ?_|refine AK ?_|refine AL ?_|refine AM ?_|refine AN ?_|refine AO ?_|refine AP ?_|refine AQ rfl ?_|refine AR ?_|refine AS ?_|refine AT rfl ?_|refine AU rfl ?_
      refine wr_call_e rfl ((w_read hE T.dread d5 (by rw [W1.fl]; omega) W1.get).mono fun r h6 ⟨v6, e6, k6, r6, _⟩ => ?_)
      subst e6
      have d6 := d5.up k6
      have XM6 := (XM.up K).up k6
      have XW : Bats h6 wv done (fun _ => True) := (ob.up k6).bats (fun _ _ _ => trivial) (fun _ _ => trivial)
      have bx6 := (bxl.up K).up k6
      have hr6 := (hr3.up K).up k6
      obtain ⟨cW, rW⟩ := XW.rs
      have sh : ∀ l ∈ done, l.length ≤ maxLen := fun l hl => by
        obtain ⟨j, hj⟩ := List.mem_iff_getElem?.1 hl
        have hjl := (List.getElem?_eq_some_iff.1 hj).1
        have hf := hdone j (recs[j]'(by omega)) l (List.getElem?_eq_getElem (by omega)) hj
        unfold frE at hf
        split at hf
        · rename_i hc
          cases hf
          have := (may_all hc.1).1
          omega
        · cases hf
      repeat first|(refine BG ?_;first|(refine BH ?_;first|(refine BI ?_;refine BM ?_)|(refine BJ ?_;first|refine BN ?_|refine BO ?_)|refine BP ?_)|(refine BK ?_;first|refine BS rfl rfl ?_|refine BT rfl rfl ?_|refine BU rfl ?_)|(refine BL ?_;first|refine BQ ?_)|(refine BR ?_;try simp only [setS]))|refine AA ?_|refine AC ?_|refine AD ?_|refine AE ?_|refine AF rfl rfl ?_|refine AG rfl rfl ?_|refine AH ?_|refine AI ?_|refine AJ ?_|refine AK ?_|refine AL ?_|refine AM ?_|refine AN ?_|refine AO ?_|refine AP ?_|refine AQ rfl ?_|refine AR ?_|refine AS ?_|refine AT rfl ?_|refine AU rfl ?_
      repeat first|(refine BG ?_;first|(refine BH ?_;first|(refine BI ?_;refine BM ?_)|(refine BJ ?_;first|refine BN ?_|refine BO ?_)|refine BV (v_pnn rfl) ?_|refine BP ?_)|(refine BK ?_;first|refine BS rfl rfl ?_|refine BT rfl rfl ?_|refine BU rfl ?_)|(refine BL ?_;first|refine BQ ?_)|(refine BR ?_;try simp only [setS]))|(refine BX ?_;first|refine BY rfl ?_|(refine BZ ?_;refine CA ?_)|refine CB (v_pnn rfl) ?_|refine CC ?_|(refine CD ?_;try simp only [setS]))|refine AA ?_|refine AC ?_|refine AD ?_|refine AE ?_|refine AF rfl rfl ?_|refine AG rfl rfl ?_|refine AH ?_|refine AI ?_|refine AJ ?_|refine AK ?_|refine AL ?_|refine AM ?_|refine AN ?_|refine AO ?_|refine AP ?_|refine AQ rfl ?_|refine AR ?_|refine AS ?_|refine AT rfl ?_|refine AU rfl ?_
      refine wd_calls_e rfl ((w5same_ok hE T.toWaS XM6 XW (by omega) sh).mono fun r h7 ⟨e7, e8⟩ => ?_)
      subst e7 e8
      refine ⟨chk_nil, ?_⟩
      rw [eqLL_refl]
      repeat first|(refine BG ?_;first|(refine BH ?_;first|(refine BI ?_;refine BM ?_)|(refine BJ ?_;first|refine BN ?_|refine BO ?_)|refine BV (rW.lenv (by rfl)) ?_|refine BP ?_)|(refine BK ?_;first|refine BS rfl rfl ?_|refine BT rfl rfl ?_|refine BU rfl ?_)|(refine BL ?_;first|refine BQ ?_)|(refine BR ?_;try simp only [setS]))|(refine BX ?_;first|refine BY rfl ?_|(refine BZ ?_;refine CA ?_)|refine CB (rW.lenv (by rfl)) ?_|refine CC ?_|(refine CD ?_;try simp only [setS]))|refine AA ?_|refine AC ?_|refine AD ?_|refine AE ?_|refine AF rfl rfl ?_|refine AG rfl rfl ?_|refine AH ?_|refine AI ?_|refine AJ ?_|refine AK ?_|refine AL ?_|refine AM ?_|refine AN ?_|refine AO ?_|refine AP ?_|refine AQ rfl ?_|refine AR ?_|refine AS ?_|refine AT rfl ?_|refine AU rfl ?_
      refine wd_calls_e rfl ((count_ok hE T.toWaW bx6).mono fun r h8 ⟨e7, e8⟩ => ?_)
      subst e7 e8
      refine ⟨chk_mov rfl rfl (chk_mov rfl (rW.lenv (by rfl)) chk_nil), ?_⟩
      obtain ⟨vs, s1, s2, s3, s4⟩ := hr6.bytes (lo := 0) (hi := en) (Nat.zero_le _) hal.2
      have e9 : (bs.drop 0).take (en - 0) = bs.take en := by simp
      rw [e9] at s1
      repeat first|(refine BG ?_;first|(refine BH ?_;first|(refine BI ?_;refine BM ?_)|(refine BJ ?_;first|refine BN ?_|refine BO ?_)|refine BV (s4 (by rfl) (.inl ⟨rfl, rfl⟩) (.inr ⟨_, _, rfl, rfl⟩)) ?_|refine BV (v_b2s rfl r6) ?_|refine BV (v_b2s rfl s1) ?_|refine BV (v_seq_t rfl rfl rfl) ?_|refine BP ?_)|(refine BK ?_;first|refine BS rfl rfl ?_|refine BT rfl rfl ?_|refine BU rfl ?_)|(refine BL ?_;first|refine BQ ?_)|(refine BR ?_;try simp only [setS]))|(refine BX ?_;first|refine BY rfl ?_|(refine BZ ?_;refine CA ?_)|refine CB (s4 (by rfl) (.inl ⟨rfl, rfl⟩) (.inr ⟨_, _, rfl, rfl⟩)) ?_|refine CB (v_b2s rfl r6) ?_|refine CB (v_b2s rfl s1) ?_|refine CB (v_seq_t rfl rfl rfl) ?_|refine CC ?_|(refine CD ?_;try simp only [setS]))|refine AA ?_|refine AC ?_|refine AD ?_|refine AE ?_|refine AF rfl rfl ?_|refine AG rfl rfl ?_|refine AH ?_|refine AI ?_|refine AJ ?_|refine AK ?_|refine AL ?_|refine AM ?_|refine AN ?_|refine AO ?_|refine AP ?_|refine AQ rfl ?_|refine AR ?_|refine AS ?_|refine AT rfl ?_|refine AU rfl ?_
      refine wd_calls_e rfl ((w_synced hE T.synced d6 (by rw [W1.fl]; omega) w7).mono fun r h9 ⟨e7, e8⟩ => ?_)
      subst e7 e8
      rw [W1.get]
      have ee : ((((some (⟨w7, bs.take en, en⟩ : MF)).map MF.synced).getD 0 : Nat) : Int) = (en : Int) := rfl
      rw [ee]
      refine ⟨chk_mov (by
        repeat first | exact pa_last (by simp only [List.length_append, List.length_cons, List.length_nil]) | refine pa_skip ?_) rfl chk_nil, ?_⟩
      repeat first|(refine BG ?_;first|(refine BH ?_;first|(refine BI ?_;refine BM ?_)|(refine BJ ?_;first|refine BN ?_|refine BO ?_)|refine BP ?_)|(refine BK ?_;first|refine BS rfl rfl ?_|refine BT rfl rfl ?_|refine BU rfl ?_)|(refine BL ?_;first|refine BQ ?_)|(refine BR ?_;try simp only [setS]))|(refine BX ?_;first|refine BY rfl ?_|(refine BZ ?_;refine CA ?_)|refine CC ?_|(refine CD ?_;try simp only [setS]))|refine AA ?_|refine AC ?_|refine AD ?_|refine AE ?_|refine AF rfl rfl ?_|refine AG rfl rfl ?_|refine AH ?_|refine AI ?_|refine AJ ?_|refine AK ?_|refine AL ?_|refine AM ?_|refine AN ?_|refine AO ?_|refine AP ?_|refine AQ rfl ?_|refine AR ?_|refine AS ?_|refine AT rfl ?_|refine AU rfl ?_
      exact ⟨rfl, (K3.and K).and k6⟩
end
end Am
end Go.Proofs.Ythgcdoahoechhaa
