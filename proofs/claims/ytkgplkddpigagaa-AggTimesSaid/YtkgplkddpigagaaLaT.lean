/- AggTimes: the law, walked. -/
import Derived.Test.YtkgplkddpigagaaQbC
import Derived.Test.YtkgplkddpigagaaQbT
set_option linter.unusedVariables false
set_option linter.unusedSimpArgs false
namespace Go.Proofs.Ytkgplkddpigagaa
namespace Am
open Go.RowKit
set_option maxRecDepth 100000
def b_AggTimes : BF := ⟨157, [0, 1, 4, 5, 6, 7, 8, 9, 10, 11, 12, 13, 14, 15, 16, 17, 52, 56, 96, 100, 130, 131, 155], (.seq (.reg [.mk none (.slot 2) (.mov (.mv (.const (.bool false))))]) (.seq (.reg [.mk none (.env 18) (.mov (.mv (.slot 0))), .mk none (.env 19) (.mov (.mv (.slot 1))), .mk none (.env 20) (.call 7 [(.env 18), (.env 19), (.const (.int .i64 3))]), .mk none (.slot 3) (.mov (.mv (.env 20)))]) (.seq (.reg [.mk none (.env 21) (.mov (.mv (.slot 3))), .mk none (.env 22) (.call 15 [(.env 21)]), .mk none (.slot 4) (.mov (.mv (.env 22)))]) (.seq (.reg [.mk none (.env 24) (.mov (.mv (.slot 3))), .mk none (.env 25) (.call 12 [(.const (.int .i64 5)), (.env 24)]), .mk none (.env 23) (.mov (.mv (.env 25))), .mk none (.env 26) (.mov (.ext 0 (.env 23))), .mk none (.env 27) (.mov (.ext 1 (.env 23))), .mk none (.slot 5) (.mov (.mv (.env 26))), .mk none (.slot 6) (.mov (.mv (.env 27)))]) (.seq (.reg [.mk none (.env 29) (.mov (.mv (.slot 3))), .mk none (.env 30) (.call 12 [(.const (.int .i64 3)), (.env 29)]), .mk none (.env 28) (.mov (.mv (.env 30))), .mk none (.env 31) (.mov (.ext 0 (.env 28))), .mk none (.env 32) (.mov (.ext 1 (.env 28))), .mk none (.slot 7) (.mov (.mv (.env 31))), .mk none (.slot 8) (.mov (.mv (.env 32)))]) (.seq (.seq (.reg [.mk none (.env 33) (.mov (.mv (.slot 6))), .mk none (.env 34) (.mov (.bin .neq .no (.env 33) (.const (.int .i64 0)))), .mk none (.env 35) (.mov (.mv (.env 34))), .mk (some ((.env 35), false)) (.env 36) (.mov (.mv (.slot 8))), .mk (some ((.env 35), false)) (.env 37) (.mov (.bin .neq .no (.env 36) (.const (.int .i64 0)))), .mk none (.env 38) (.mov (.pick (.env 35) (.const (.bool true)) (.env 37))), .mk none (.env 39) (.mov (.mv (.env 38))), .mk (some ((.env 39), false)) (.env 40) (.mov (.mv (.slot 5))), .mk (some ((.env 39), false)) (.env 41) (.mov (.lenv (.env 40))), .mk (some ((.env 39), false)) (.env 42) (.mov (.mv (.slot 4))), .mk (some ((.env 39), false)) (.env 43) (.mov (.lenv (.env 42))), .mk (some ((.env 39), false)) (.env 44) (.mov (.bin .neq .no (.env 41) (.env 43))), .mk none (.env 45) (.mov (.pick (.env 39) (.const (.bool true)) (.env 44))), .mk none (.env 46) (.mov (.mv (.env 45))), .mk (some ((.env 46), false)) (.env 47) (.mov (.mv (.slot 7))), .mk (some ((.env 46), false)) (.env 48) (.mov (.lenv (.env 47))), .mk (some ((.env 46), false)) (.env 49) (.mov (.mv (.slot 4))), .mk (some ((.env 46), false)) (.env 50) (.mov (.lenv (.env 49))), .mk (some ((.env 46), false)) (.env 51) (.mov (.bin .neq .no (.env 48) (.env 50))), .mk none (.slot 16) (.mov (.pick (.env 46) (.const (.bool true)) (.env 51)))]) (.cond (.slot 16) (.seq (.reg [.mk none (.slot 2) (.mov (.mv (.const (.bool false))))]) .ret) .skip)) (.seq (.seq (.reg [.mk none (.slot 9) (.mov (.mv (.const (.int .i64 0))))]) (.block 0 (.loop (.seq (.seq (.reg [.mk none (.env 53) (.mov (.mv (.slot 9))), .mk none (.env 54) (.mov (.mv (.slot 4))), .mk none (.env 55) (.mov (.lenv (.env 54))), .mk none (.slot 17) (.mov (.bin .lss .no (.env 53) (.env 55)))]) (.cond (.slot 17) .skip (.exit 0))) (.seq (.block 1 (.seq (.seq (.dreg [(.mk none (.env 59) (.mov (.mv (.slot 5))), []), (.mk none (.env 60) (.mov (.mv (.slot 9))), []), (.mk none (.env 61) (.mov (.iaddr 3 (.env 59) (.env 60))), []), (.mk none (.env 62) (.mov (.faddr 0 (.env 61))), []), (.mk none (.env 63) (.mov (.ld1 (.env 62))), []), (.mk none (.env 64) (.mov (.mv (.slot 4))), []), (.mk none (.env 65) (.mov (.mv (.slot 9))), []), (.mk none (.env 66) (.mov (.iaddr 1 (.env 64) (.env 65))), []), (.mk none (.env 67) (.mov (.ld1 (.env 66))), []), (.mk none (.env 68) (.mov (.bin .neq .no (.env 63) (.env 67))), []), (.mk none (.env 69) (.mov (.mv (.env 68))), []), (.mk (some ((.env 69), false)) (.env 70) (.mov (.mv (.slot 7))), []), (.mk (some ((.env 69), false)) (.env 71) (.mov (.mv (.slot 9))), []), (.mk (some ((.env 69), false)) (.env 72) (.mov (.iaddr 3 (.env 70) (.env 71))), []), (.mk (some ((.env 69), false)) (.env 73) (.mov (.faddr 0 (.env 72))), []), (.mk (some ((.env 69), false)) (.env 74) (.mov (.ld1 (.env 73))), []), (.mk (some ((.env 69), false)) (.env 75) (.mov (.mv (.slot 4))), []), (.mk (some ((.env 69), false)) (.env 76) (.mov (.mv (.slot 9))), []), (.mk (some ((.env 69), false)) (.env 77) (.mov (.iaddr 1 (.env 75) (.env 76))), []), (.mk (some ((.env 69), false)) (.env 78) (.mov (.ld1 (.env 77))), []), (.mk (some ((.env 69), false)) (.env 79) (.mov (.bin .neq .no (.env 74) (.env 78))), []), (.mk none (.env 80) (.mov (.pick (.env 69) (.const (.bool true)) (.env 79))), []), (.mk none (.env 81) (.mov (.mv (.env 80))), []), (.mk (some ((.env 81), false)) (.env 82) (.mov (.mv (.slot 9))), []), (.mk (some ((.env 81), false)) (.env 83) (.mov (.bin .gtr .no (.env 82) (.const (.int .i64 0)))), []), (.mk (some ((.env 81), false)) (.env 84) (.mov (.mv (.env 83))), []), (.mk (some ((.env 84), true)) (.env 85) (.mov (.mv (.slot 4))), []), (.mk (some ((.env 84), true)) (.env 86) (.mov (.mv (.slot 9))), []), (.mk (some ((.env 84), true)) (.env 87) (.mov (.bin .sub .no (.env 86) (.const (.int .i64 1)))), []), (.mk (some ((.env 84), true)) (.env 88) (.mov (.iaddr 1 (.env 85) (.env 87))), []), (.mk (some ((.env 84), true)) (.env 89) (.mov (.ld1 (.env 88))), []), (.mk (some ((.env 84), true)) (.env 90) (.mov (.mv (.slot 4))), []), (.mk (some ((.env 84), true)) (.env 91) (.mov (.mv (.slot 9))), []), (.mk (some ((.env 84), true)) (.env 92) (.mov (.iaddr 1 (.env 90) (.env 91))), []), (.mk (some ((.env 84), true)) (.env 93) (.mov (.ld1 (.env 92))), []), (.mk (some ((.env 84), true)) (.env 94) (.mov (.bin .geq .no (.env 89) (.env 93))), []), (.mk (some ((.env 81), false)) (.env 95) (.mov (.pick (.env 84) (.env 94) (.const (.bool false)))), []), (.mk none (.slot 18) (.mov (.pick (.env 81) (.const (.bool true)) (.env 95))), [])]) (.cond (.slot 18) (.seq (.reg [.mk none (.slot 2) (.mov (.mv (.const (.bool false))))]) .ret) .skip)) (.seq (.reg [.mk none (.slot 10) (.mov (.mv (.const (.int .i64 0)))), .mk none (.slot 11) (.mov (.mv (.const (.bool false))))]) (.seq (.seq (.reg [.mk none (.slot 12) (.mov (.mv (.const (.int .i64 0))))]) (.block 2 (.loop (.seq (.seq (.reg [.mk none (.env 97) (.mov (.mv (.slot 12))), .mk none (.env 98) (.mov (.mv (.slot 3))), .mk none (.env 99) (.mov (.lenv (.env 98))), .mk none (.slot 19) (.mov (.bin .lss .no (.env 97) (.env 99)))]) (.cond (.slot 19) .skip (.exit 2))) (.seq (.block 3 (.seq (.dreg [(.mk none (.env 104) (.mov (.mv (.slot 3))), []), (.mk none (.env 105) (.mov (.mv (.slot 12))), []), (.mk none (.env 106) (.mov (.iaddr 1 (.env 104) (.env 105))), []), (.mk none (.env 107) (.mov (.ld1 (.env 106))), []), (.mk none (.env 108) (.mov (.mv (.slot 4))), []), (.mk none (.env 109) (.mov (.mv (.slot 9))), []), (.mk none (.env 110) (.mov (.iaddr 1 (.env 108) (.env 109))), []), (.mk none (.env 111) (.mov (.ld1 (.env 110))), []), (.mk none (.slot 13) (.eff (.alloc [(.int .i64 0), (.int .i64 0)])), [0, 1, 2, 3, 4, 5, 6, 7]), (.mk none (.env 112) (.call 16 [(.env 107), (.env 111)]), [8]), (.mk none (.env 103) (.mov (.mv (.env 112))), []), (.mk none (.env 113) (.mov (.ext 0 (.env 103))), []), (.mk none (.env 114) (.mov (.ext 1 (.env 103))), []), (.mk none (.env 115) (.mov (.ext 2 (.env 103))), []), (.mk none .none (.eff (.store 2 (.slot 13) (.env 113))), [12, 13]), (.mk none (.slot 14) (.mov (.mv (.env 114))), []), (.mk none (.slot 15) (.mov (.mv (.env 115))), [])]) (.seq (.seq (.dreg [(.mk none (.env 116) (.mov (.mv (.slot 15))), []), (.mk none (.env 117) (.mov (.bin .neq .no (.env 116) (.const (.int .i64 0)))), []), (.mk none (.env 118) (.mov (.mv (.env 117))), []), (.mk (some ((.env 118), false)) (.env 119) (.mov (.mv (.slot 14))), []), (.mk (some ((.env 118), false)) (.env 120) (.mov (.mv (.env 119))), []), (.mk (some ((.env 120), true)) (.env 121) (.mov (.ldn 2 (.slot 13))), []), (.mk (some ((.env 120), true)) (.env 122) (.mov (.mv (.slot 7))), []), (.mk (some ((.env 120), true)) (.env 123) (.mov (.mv (.slot 9))), []), (.mk (some ((.env 120), true)) (.env 124) (.mov (.iaddr 3 (.env 122) (.env 123))), []), (.mk (some ((.env 120), true)) (.env 125) (.mov (.faddr 1 (.env 124))), []), (.mk (some ((.env 120), true)) (.env 126) (.mov (.ldn 2 (.env 125))), []), (.mk (some ((.env 120), true)) (.env 127) (.call 17 [(.env 121), (.env 126)]), []), (.mk (some ((.env 120), true)) (.env 128) (.mov (.bin .gtr .no (.env 127) (.const (.int .i64 0)))), []), (.mk (some ((.env 118), false)) (.env 129) (.mov (.pick (.env 120) (.env 128) (.const (.bool false)))), []), (.mk none (.slot 20) (.mov (.pick (.env 118) (.const (.bool true)) (.env 129))), [])]) (.cond (.slot 20) (.seq (.reg [.mk none (.slot 2) (.mov (.mv (.const (.bool false))))]) .ret) .skip)) (.seq (.reg [.mk none (.slot 21) (.mov (.mv (.slot 14)))]) (.cond (.slot 21) (.seq (.reg [.mk none (.env 132) (.mov (.mv (.slot 10))), .mk none (.env 133) (.mov (.bin .add .no (.env 132) (.const (.int .i64 1)))), .mk none (.slot 10) (.mov (.mv (.env 133)))]) (.dreg [(.mk none (.env 134) (.mov (.mv (.slot 11))), []), (.mk none (.env 135) (.mov (.mv (.env 134))), []), (.mk (some ((.env 135), false)) (.env 136) (.mov (.ldn 2 (.slot 13))), []), (.mk (some ((.env 135), false)) (.env 137) (.mov (.mv (.slot 7))), []), (.mk (some ((.env 135), false)) (.env 138) (.mov (.mv (.slot 9))), []), (.mk (some ((.env 135), false)) (.env 139) (.mov (.iaddr 3 (.env 137) (.env 138))), []), (.mk (some ((.env 135), false)) (.env 140) (.mov (.faddr 1 (.env 139))), []), (.mk (some ((.env 135), false)) (.env 141) (.mov (.ldn 2 (.env 140))), []), (.mk (some ((.env 135), false)) (.env 142) (.mov (.seq false [0, 0] (.env 136) (.env 141))), []), (.mk none (.env 143) (.mov (.pick (.env 135) (.const (.bool true)) (.env 142))), []), (.mk none (.slot 11) (.mov (.mv (.env 143))), [])])) .skip))))) (.reg [.mk none (.env 101) (.mov (.mv (.slot 12))), .mk none (.env 102) (.mov (.bin .add .no (.env 101) (.const (.int .i64 1)))), .mk none (.slot 12) (.mov (.mv (.env 102)))])))))) (.seq (.reg [.mk none (.env 144) (.mov (.mv (.slot 5))), .mk none (.env 145) (.mov (.mv (.slot 9))), .mk none (.env 146) (.mov (.iaddr 3 (.env 144) (.env 145))), .mk none (.env 147) (.mov (.faddr 1 (.env 146))), .mk none (.env 148) (.mov (.ldn 2 (.env 147))), .mk none (.env 149) (.mov (.mv (.slot 10))), .mk none (.env 150) (.mov (.bld [(.int .i64 0), (.int .i64 0)] [(0, 1, (.env 149)), (1, 1, (.const (.int .i64 1)))])), .mk none (.env 151) (.mov (.seq true [0, 0] (.env 148) (.env 150))), .mk none (.env 152) (.mov (.mv (.env 151))), .mk (some ((.env 152), false)) (.env 153) (.mov (.mv (.slot 11))), .mk (some ((.env 152), false)) (.env 154) (.mov (.notb (.env 153))), .mk none (.slot 22) (.mov (.pick (.env 152) (.const (.bool true)) (.env 154)))]) (.cond (.slot 22) (.seq (.reg [.mk none (.slot 2) (.mov (.mv (.const (.bool false))))]) .ret) .skip)))))) (.reg [.mk none (.env 57) (.mov (.mv (.slot 9))), .mk none (.env 58) (.mov (.bin .add .no (.env 57) (.const (.int .i64 1)))), .mk none (.slot 9) (.mov (.mv (.env 58)))])))))) (.seq (.reg [.mk none (.env 156) (.call 10 []), .mk none (.slot 2) (.mov (.mv (.env 156)))]) .ret)))))))), [.slot (.slot 2)]⟩
theorem agg_cm {ls : List (List SM)} (hs : ∀ l ∈ ls, ∃ s, Smp l s 8) (hl : ls.length ≤ 1000) : aggF 5 ls = ((timesF ls).map fun t => ⟨t, (((valsA t ls).length : Int), 1)⟩, 0) ∧
    ∃ mx : Int → QQ, aggF 3 ls = ((timesF ls).map fun t => ⟨t, mx t⟩, 0) ∧ ∀ t ∈ timesF ls, RightQ (mx t) ∧ mx t ∈ valsA t ls ∧ ∀ q ∈ valsA t ls, ¬ 0 < cmpF q (mx t) := by
  have hR : ∀ l ∈ ls, RightS l := fun l h => by obtain ⟨s, sm⟩ := hs l h; exact sm.right
  have h0 : ∀ t, ∀ l ∈ ls, (atF l t).2 = 0 := fun t l h => by obtain ⟨s, sm⟩ := hs l h; obtain ⟨q, ok, e, _⟩ := atF_fit (by omega) sm t; rw [e]
  have hv : ∀ t, atsG t [] ls = (valsA t ls, 0) := fun t => by rw [atsG_vals (h0 t)]; rfl
  have hn : ∀ t ∈ timesF ls, valsA t ls ≠ [] := fun t ht => by
    obtain ⟨l, hl, s, hs, e⟩ := timesF_mem.1 ht
    exact valsA_some hl (hR l hl) ⟨s, hs, e⟩
  have hr : ∀ t, ∀ q ∈ valsA t ls, RightQ q := fun t => valsA_right hs
  have hvl : ∀ t, (valsA t ls).length ≤ 1000 := fun t => by have := valsA_len (t := t) (ls := ls); omega
  have key : ∀ how : Int, 1 ≤ how → how ≤ 7 → ∀ f : Int → QQ, (∀ t ∈ timesF ls, foldF how (valsA t ls) = (f t, 0)) → aggF how ls = ((timesF ls).map fun t => ⟨t, f t⟩, 0) := fun how g1 g2 f hf => by
    unfold aggF
    rw [if_neg (by
      rintro (q | ⟨k, hk, q⟩)
      · rw [decide_eq_true g1, decide_eq_true g2] at q; cases q
      · exact q (hR k hk)), aggG_at (out := []) (f := f) (qs := fun t => valsA t ls) (fun t ht => ⟨hv t, hf t ht⟩), List.nil_append]
  refine ⟨key 5 (by omega) (by omega) _ fun t ht => fold_cnt (hn t ht) (hr t) (hvl t), ?_⟩
  have hm : ∀ t, ∃ m, t ∈ timesF ls → foldF 3 (valsA t ls) = (m, 0) ∧ RightQ m ∧ m ∈ valsA t ls ∧ ∀ q ∈ valsA t ls, ¬ 0 < cmpF q m := fun t => by
    by_cases ht : t ∈ timesF ls
    · obtain ⟨m, g⟩ := fold_max (hn t ht) (hr t) (hvl t)
      exact ⟨m, fun _ => g⟩
    · exact ⟨(0, 0), fun h => absurd h ht⟩
  obtain ⟨mx, hmx⟩ := Classical.axiomOfChoice hm
  exact ⟨mx, key 3 (by omega) (by omega) mx fun t ht => (hmx t ht).1, fun t ht => (hmx t ht).2⟩
theorem valsA_mem {t : Int} {q : QQ} : ∀ {ls : List (List SM)} {l : List SM}, l ∈ ls → (atF l t).1.2 = true → (atF l t).1.1 = q → q ∈ valsA t ls
  | k :: ls, l, hl, h1, h2 => by
    unfold valsA
    rcases List.mem_cons.1 hl with h | h
    · subst h
      rw [if_pos h1, h2]
      exact List.mem_cons_self ..
    · split
      · exact List.mem_cons_of_mem _ (valsA_mem h h1 h2)
      · exact valsA_mem h h1 h2
theorem v_bldn {X : Type} {e : En} {t : List AV} {h : Hp X} {x : Od} {n : Int} (hx : x.ev e t = .int .i64 n) : (Mv.bld [.int .i64 0, .int .i64 0] [(0, 1, x), (1, 1, .const (.int .i64 1))]).ev e t h = some (.agg [.int .i64 n, .int .i64 1]) := by
  simp only [Mv.ev, List.map, hx]
  rfl
section
variable {X : Type} {E : Nat → Option (Ent X)}
set_option maxHeartbeats 8000000 in
theorem atimes_ok (hE : ∀ f e, E f = some e → e.plain) (T : QaW E) (hcmp : E 17 = some (.bc b_ref1Cmp)) (hmade : E 7 = some (.bc b_w23made)) (hlaw : E 5 = some (.bc b_AggTimes)) {h : Hp X} {v w : AV} {st vs : List (List Int)} (a : IntssAt h v st) (b : IntssAt h w vs) :
    WF (lim E) 5 [v, w] h fun r _ => r = .bool true := by
  refine wf_bc hE hlaw rfl ?_
  simp only [b_AggTimes, List.map, getS]
  have hmx : (maxLen : Nat) = 9223372036854775807 := rfl
  repeat first|(refine BG ?_;first|(refine BH ?_;first|(refine BI ?_;refine BM ?_)|(refine BJ ?_;first|refine BN ?_|refine BO ?_)|refine BP ?_)|(refine BK ?_;first|refine BS rfl rfl ?_|refine BT rfl rfl ?_|refine BU rfl ?_)|(refine BL ?_;first|refine BQ ?_)|(refine BR ?_;try simp only [setS]))|refine AA ?_|refine AC ?_|refine AD ?_|refine AE ?_|refine AF rfl rfl ?_|refine AG rfl rfl ?_|refine AH ?_|refine AI ?_|refine AJ ?_|refine AK ?_|refine AL ?_|refine AM ?_|refine AN ?_|refine AO ?_|refine AP ?_|refine AQ rfl ?_|refine AR ?_|refine AS ?_|refine AT rfl ?_|refine AU rfl ?_
  refine wr_call_e rfl ((made_ok hE T.q hmade a b (most := 3) (by omega)).mono fun sv h1 ⟨k1, cs, ls, so, hl3, hs⟩ => ?_)
  have hll8 : ∀ l ∈ ls, l.length ≤ 1000 := fun l hl => by obtain ⟨s, sm⟩ := hs l hl; have := sm.len; omega
  have sv1 := so.sers (by omega)
  obtain ⟨hc, mx, hm, hmm⟩ := agg_cm hs (by omega)
  repeat first|(refine BG ?_;first|(refine BH ?_;first|(refine BI ?_;refine BM ?_)|(refine BJ ?_;first|refine BN ?_|refine BO ?_)|refine BP ?_)|(refine BK ?_;first|refine BS rfl rfl ?_|refine BT rfl rfl ?_|refine BU rfl ?_)|(refine BL ?_;first|refine BQ ?_)|(refine BR ?_;try simp only [setS]))|refine AA ?_|refine AC ?_|refine AD ?_|refine AE ?_|refine AF rfl rfl ?_|refine AG rfl rfl ?_|refine AH ?_|refine AI ?_|refine AJ ?_|refine AK ?_|refine AL ?_|refine AM ?_|refine AN ?_|refine AO ?_|refine AP ?_|refine AQ rfl ?_|refine AR ?_|refine AS ?_|refine AT rfl ?_|refine AU rfl ?_
  refine wr_call_e rfl ((times_ok hE T.toQaM sv1 hll8).mono fun tv h2 ⟨k2, rT⟩ => ?_)
  have htl := timesF_len sv1.len hll8
  have htr := timesF_rise ls
  generalize hT0 : timesF ls = T0 at *
  have sv2 := sv1.up k2
  repeat first|(refine BG ?_;first|(refine BH ?_;first|(refine BI ?_;refine BM ?_)|(refine BJ ?_;first|refine BN ?_|refine BO ?_)|refine BP ?_)|(refine BK ?_;first|refine BS rfl rfl ?_|refine BT rfl rfl ?_|refine BU rfl ?_)|(refine BL ?_;first|refine BQ ?_)|(refine BR ?_;try simp only [setS]))|refine AA ?_|refine AC ?_|refine AD ?_|refine AE ?_|refine AF rfl rfl ?_|refine AG rfl rfl ?_|refine AH ?_|refine AI ?_|refine AJ ?_|refine AK ?_|refine AL ?_|refine AM ?_|refine AN ?_|refine AO ?_|refine AP ?_|refine AQ rfl ?_|refine AR ?_|refine AS ?_|refine AT rfl ?_|refine AU rfl ?_
  refine wr_call_e rfl ((ado_ok hE T.toQaN sv2 hll8 5).mono fun x h3 ⟨k3, w3, e3, hw3, _⟩ => ?_)
  subst e3
  rw [hc] at hw3 ⊢
  have sv3 := sv2.up k3
  repeat first|(refine BG ?_;first|(refine BH ?_;first|(refine BI ?_;refine BM ?_)|(refine BJ ?_;first|refine BN ?_|refine BO ?_)|refine BP ?_)|(refine BK ?_;first|refine BS rfl rfl ?_|refine BT rfl rfl ?_|refine BU rfl ?_)|(refine BL ?_;first|refine BQ ?_)|(refine BR ?_;try simp only [setS]))|refine AA ?_|refine AC ?_|refine AD ?_|refine AE ?_|refine AF rfl rfl ?_|refine AG rfl rfl ?_|refine AH ?_|refine AI ?_|refine AJ ?_|refine AK ?_|refine AL ?_|refine AM ?_|refine AN ?_|refine AO ?_|refine AP ?_|refine AQ rfl ?_|refine AR ?_|refine AS ?_|refine AT rfl ?_|refine AU rfl ?_
  refine wr_call_e rfl ((ado_ok hE T.toQaN sv3 hll8 3).mono fun x h4 ⟨k4, w4, e4, hw4, _⟩ => ?_)
  subst e4
  rw [hm] at hw4 ⊢
  have sv4 := sv3.up k4
  have rc := (hw3.up k4).rs
  have rm := hw4.rs
  have rT4 := (rT.up k3).up k4
  rw [List.length_map] at rc rm
  have hll := sv1.len
  obtain ⟨cells, hrs, hat⟩ := sv4.out
  repeat first|(refine BG ?_;first|(refine BH ?_;first|(refine BI ?_;refine BM ?_)|(refine BJ ?_;first|refine BN ?_|refine BO ?_)|refine BV (rc.lenv (by rfl)) ?_|refine BV (rm.lenv (by rfl)) ?_|refine BV (rT4.lenv (by rfl)) ?_|refine BP ?_)|(refine BK ?_;first|refine BS rfl rfl ?_|refine BT rfl rfl ?_|refine BU rfl ?_)|(refine BL ?_;first|refine BQ ?_)|(refine BR ?_;try simp only [setS]))|refine AA ?_|refine AC ?_|refine AD ?_|refine AE ?_|refine AF rfl rfl ?_|refine AG rfl rfl ?_|refine AH ?_|refine AI ?_|refine AJ ?_|refine AK ?_|refine AL ?_|refine AM ?_|refine AN ?_|refine AO ?_|refine AP ?_|refine AQ rfl ?_|refine AR ?_|refine AS ?_|refine AT rfl ?_|refine AU rfl ?_
  refine wb_loop (fun n t hh => ∃ (i : Nat) (s10 s11 s12 s13 s14 s15 s17 s18 s19 s20 s21 s22 : AV), i ≤ T0.length ∧ n = T0.length - i ∧ Keep NoB h4 hh ∧ t = [v, w, .bool false, sv, tv, w3, .int .i64 0, w4, .int .i64 0, .int .i64 i, s10, s11, s12, s13, s14, s15, .bool false, s17, s18, s19, s20, s21, s22]) ?_ T0.length _ _ ⟨0, _, _, _, _, _, _, _, _, _, _, _, _, by omega, by omega, Keep.refl _ _, rfl⟩
  rintro n t hh ⟨i, s10, s11, s12, s13, s14, s15, s17, s18, s19, s20, s21, s22, hi, hm1, K, rfl⟩
  by_cases hlt : i < T0.length
  · obtain ⟨t0, ht0⟩ : ∃ x, T0[i]? = some x := ⟨_, List.getElem?_eq_getElem hlt⟩
    obtain ⟨mR, mM, mG⟩ := hmm t0 (List.mem_of_getElem? ht0)
    have hpc : (T0.map fun t => (⟨t, (((valsA t ls).length : Int), 1)⟩ : SM))[i]? = some ⟨t0, (((valsA t0 ls).length : Int), 1)⟩ := by rw [List.getElem?_map, ht0]; rfl
    have hpm : (T0.map fun t => (⟨t, mx t⟩ : SM))[i]? = some ⟨t0, mx t0⟩ := by rw [List.getElem?_map, ht0]; rfl
    obtain ⟨gc, oc, c0, c1, c2, c3⟩ := (rc.up K).atS hpc
    obtain ⟨gm, om, m0, m1, m2, m3⟩ := (rm.up K).atS hpm
    obtain ⟨gt, ot, t0', t1⟩ := (rT4.up K).at2 hlt
    have kr := Keep.refl (NoB) (hh : Hp X)
    have lt1 : ∀ {e : En} {t : List AV} {x : Od}, x.ev e t = .ptr gt ot → (Mv.ld1 x).ev e t hh = some (.int .i64 t0) := fun hx => by rw [t1 (Keep.refl NoB hh) (fun _ _ q => q) hx, iv_at ht0]
    repeat first|(refine BG ?_;first|(refine BH ?_;first|(refine BI ?_;refine BM ?_)|(refine BJ ?_;first|refine BN ?_|refine BO ?_)|refine BV ((rT4.up K).lenv (by rfl)) ?_|refine BP ?_)|(refine BK ?_;first|refine BS rfl rfl ?_|refine BT rfl rfl ?_|refine BU rfl ?_)|(refine BL ?_;first|refine BQ ?_)|(refine BR ?_;try simp only [setS]))|refine AA ?_|refine AC ?_|refine AD ?_|refine AF rfl rfl ?_|refine AG rfl rfl ?_|refine AH ?_|refine AI ?_|refine AJ ?_|refine AK ?_|refine AL ?_|refine AM ?_|refine AN ?_|refine AO ?_|refine AP ?_|refine AQ rfl ?_|refine AR ?_|refine AS ?_|refine AT rfl ?_|refine AU rfl ?_
    refine wb_mid (fun t' h' => h' = hh ∧ t' = [v, w, .bool false, sv, tv, w3, .int .i64 0, w4, .int .i64 0, .int .i64 i, s10, s11, s12, s13, s14, s15, .bool false, .bool true, .bool false, s19, s20, s21, s22]) ?_ ?_
    · rcases Nat.eq_zero_or_pos i with hi0 | hi0
      · subst hi0
        repeat first|(refine BG ?_;first|(refine BH ?_;first|(refine BI ?_;refine BM ?_)|(refine BJ ?_;first|refine BN ?_|refine BO ?_)|refine BV (c0 rfl rfl) ?_|refine BV (c1 kr rfl) ?_|refine BV (m0 rfl rfl) ?_|refine BV (m1 kr rfl) ?_|refine BV (t0' rfl rfl) ?_|refine BV (lt1 rfl) ?_|refine BV (v_neq_f rfl rfl (fun q => q rfl)) ?_|refine BP ?_)|(refine BK ?_;first|refine BS rfl rfl ?_|refine BT rfl rfl ?_|refine BU rfl ?_)|(refine BL ?_;first|refine BQ ?_)|(refine BR ?_;try simp only [setS]))|(refine BX ?_;first|refine BY rfl ?_|refine (wd_gq rfl) ?_|(refine BZ ?_;refine CA ?_)|refine CB (c0 rfl rfl) ?_|refine CB (c1 kr rfl) ?_|refine CB (m0 rfl rfl) ?_|refine CB (m1 kr rfl) ?_|refine CB (t0' rfl rfl) ?_|refine CB (lt1 rfl) ?_|refine CB (v_neq_f rfl rfl (fun q => q rfl)) ?_|refine CC ?_|(refine CD ?_;try simp only [setS]))|refine AA ?_|refine AC ?_|refine AD ?_|refine AE ?_|refine AF rfl rfl ?_|refine AG rfl rfl ?_|refine AH ?_|refine AI ?_|refine AJ ?_|refine AK ?_|refine AL ?_|refine AM ?_|refine AN ?_|refine AO ?_|refine AP ?_|refine AQ rfl ?_|refine AR ?_|refine AS ?_|refine AT rfl ?_|refine AU rfl ?_
        exact mid_norm ⟨rfl, rfl⟩
      · obtain ⟨m, rfl⟩ : ∃ m, i = m + 1 := ⟨i - 1, by omega⟩
        obtain ⟨tp, htp⟩ : ∃ x, T0[m]? = some x := ⟨_, List.getElem?_eq_getElem (by omega)⟩
        obtain ⟨gp, op, p0, p1⟩ := (rT4.up K).at2 (show m < T0.length by omega)
        have lp1 : ∀ {e : En} {t : List AV} {x : Od}, x.ev e t = .ptr gp op → (Mv.ld1 x).ev e t hh = some (.int .i64 tp) := fun hx => by rw [p1 (Keep.refl NoB hh) (fun _ _ q => q) hx, iv_at htp]
        have hlt' : tp < t0 := by
          rw [List.pairwise_iff_getElem] at htr
          obtain ⟨g1, g2⟩ := List.getElem?_eq_some_iff.1 htp
          obtain ⟨g3, g4⟩ := List.getElem?_eq_some_iff.1 ht0
          have := htr m (m + 1) g1 g3 (by omega)
          rw [g2, g4] at this
          exact this
        repeat first|(refine BG ?_;first|(refine BH ?_;first|(refine BI ?_;refine BM ?_)|(refine BJ ?_;first|refine BN ?_|refine BO ?_)|refine BV (c0 rfl rfl) ?_|refine BV (c1 kr rfl) ?_|refine BV (m0 rfl rfl) ?_|refine BV (m1 kr rfl) ?_|refine BV (t0' rfl rfl) ?_|refine BV (p0 rfl rfl) ?_|refine BV (lt1 rfl) ?_|refine BV (lp1 rfl) ?_|refine BV (v_pred rfl rfl (by omega)) ?_|refine BV (v_neq_f rfl rfl (fun q => q rfl)) ?_|refine BP ?_)|(refine BK ?_;first|refine BS rfl rfl ?_|refine BT rfl rfl ?_|refine BU rfl ?_)|(refine BL ?_;first|refine BQ ?_)|(refine BR ?_;try simp only [setS]))|(refine BX ?_;first|refine BY rfl ?_|(refine BZ ?_;refine CA ?_)|refine CB (c0 rfl rfl) ?_|refine CB (c1 kr rfl) ?_|refine CB (m0 rfl rfl) ?_|refine CB (m1 kr rfl) ?_|refine CB (t0' rfl rfl) ?_|refine CB (p0 rfl rfl) ?_|refine CB (lt1 rfl) ?_|refine CB (lp1 rfl) ?_|refine CB (v_pred rfl rfl (by omega)) ?_|refine CB (v_neq_f rfl rfl (fun q => q rfl)) ?_|refine CC ?_|(refine CD ?_;try simp only [setS]))|refine AA ?_|refine AC ?_|refine AD ?_|refine AE ?_|refine AF rfl rfl ?_|refine AG rfl rfl ?_|refine AH ?_|refine AI ?_|refine AJ ?_|refine AK ?_|refine AL ?_|refine AM ?_|refine AN ?_|refine AO ?_|refine AP ?_|refine AQ rfl ?_|refine AR ?_|refine AS ?_|refine AT rfl ?_|refine AU rfl ?_
        exact mid_norm ⟨rfl, rfl⟩
    rintro t' h' ⟨eh, rfl⟩
    have eh := eh.symm
    subst eh
    repeat first|(refine BG ?_;first|(refine BH ?_;first|(refine BI ?_;refine BM ?_)|(refine BJ ?_;first|refine BN ?_|refine BO ?_)|refine BV (hrs.lenv (by rfl)) ?_|refine BP ?_)|(refine BK ?_;first|refine BS rfl rfl ?_|refine BT rfl rfl ?_|refine BU rfl ?_)|(refine BL ?_;first|refine BQ ?_)|(refine BR ?_;try simp only [setS]))|refine AA ?_|refine AC ?_|refine AD ?_|refine AE ?_|refine AF rfl rfl ?_|refine AG rfl rfl ?_|refine AH ?_|refine AI ?_|refine AJ ?_|refine AK ?_|refine AL ?_|refine AM ?_|refine AN ?_|refine AO ?_|refine AP ?_|refine AQ rfl ?_|refine AR ?_|refine AS ?_|refine AT rfl ?_|refine AU rfl ?_
    refine wb_loop (fun n t h5 => ∃ (j : Nat) (att : Bool) (s13 s14 s15 s19 s20 s21 : AV), j ≤ ls.length ∧ n = ls.length - j ∧ Keep NoB hh h5 ∧ att = decide (mx t0 ∈ valsA t0 (ls.take j)) ∧ t = [v, w, .bool false, sv, tv, w3, .int .i64 0, w4, .int .i64 0, .int .i64 i, .int .i64 (valsA t0 (ls.take j)).length, .bool att, .int .i64 j, s13, s14, s15, .bool false, .bool true, .bool false, s19, s20, s21, s22]) ?_ ls.length _ _ ⟨0, _, _, _, _, _, _, _, by omega, by omega, Keep.refl _ _, (decide_eq_false (by simp [valsA])).symm, rfl⟩
    rintro n2 t h5 ⟨j, att, s13, s14, s15, s19, s20, s21, hj, hm2, K5, hatt, rfl⟩
    by_cases hjl : j < ls.length
    · obtain ⟨l, hl⟩ : ∃ l, ls[j]? = some l := ⟨_, List.getElem?_eq_getElem hjl⟩
      obtain ⟨c, hc', hser⟩ := hat j l hl
      have KK := K.and K5
      obtain ⟨g, o, d0, d1⟩ := ((hrs.up K).up K5).at2 hjl
      obtain ⟨ss, sm⟩ := hs l (List.mem_of_getElem? hl)
      obtain ⟨q, ok, eat, hqr⟩ := atF_fit (by omega) sm t0
      have hst : valsA t0 (ls.take (j + 1)) = valsA t0 (ls.take j) ++ (if ok = true then [q] else []) := by
        have e1 : ls.take (j + 1) = ls.take j ++ [l] := by rw [List.take_add_one, hl]; rfl
        rw [e1, valsA_snoc, eat]
      have hvl := valsA_len (t := t0) (ls := ls.take j)
      rw [List.length_take] at hvl
      have kq : Keep NoB h5 (h5.push (.rw [.int .i64 0, .int .i64 0])) := Keep.push _ _ _
      have bq : Bx (h5.push (.rw [.int .i64 0, .int .i64 0])) h5.n [.int .i64 0, .int .i64 0] := bx_push
      have lcx : ∀ {hh' : Hp X}, Keep NoB h5 hh' → ∀ {e : En} {t : List AV} {x : Od}, x.ev e t = .ptr g o → (Mv.ld1 x).ev e t hh' = some c := fun {hh'} k {e t x} hx => by rw [d1 k (fun _ _ q => q) hx]; exact hc'
      have ltx : ∀ {hh' : Hp X}, Keep NoB h5 hh' → ∀ {e : En} {t : List AV} {x : Od}, x.ev e t = .ptr gt ot → (Mv.ld1 x).ev e t hh' = some (.int .i64 t0) := fun {hh'} k {e t x} hx => by rw [t1 (K5.and k) (fun _ _ q => q) hx, iv_at ht0]
      have kr5 := Keep.refl (NoB) (h5 : Hp X)
      repeat first|(refine BG ?_;first|(refine BH ?_;first|(refine BI ?_;refine BM ?_)|(refine BJ ?_;first|refine BN ?_|refine BO ?_)|refine BV (((hrs.up K).up K5).lenv (by rfl)) ?_|refine BP ?_)|(refine BK ?_;first|refine BS rfl rfl ?_|refine BT rfl rfl ?_|refine BU rfl ?_)|(refine BL ?_;first|refine BQ ?_)|(refine BR ?_;try simp only [setS]))|refine AA ?_|refine AC ?_|refine AD ?_|refine AF rfl rfl ?_|refine AG rfl rfl ?_|refine AH ?_|refine AI ?_|refine AJ ?_|refine AK ?_|refine AL ?_|refine AM ?_|refine AN ?_|refine AO ?_|refine AP ?_|refine AQ rfl ?_|refine AR ?_|refine AS ?_|refine AT rfl ?_|refine AU rfl ?_
      repeat first|(refine BG ?_;first|(refine BH ?_;first|(refine BI ?_;refine BM ?_)|(refine BJ ?_;first|refine BN ?_|refine BO ?_)|refine BV (d0 rfl rfl) ?_|refine BV (t0' rfl rfl) ?_|refine BV (lcx kr5 rfl) ?_|refine BV (ltx kr5 rfl) ?_|refine BP ?_)|(refine BK ?_;first|refine BS rfl rfl ?_|refine BT rfl rfl ?_|refine BU rfl ?_)|(refine BL ?_;first|refine BQ ?_)|(refine BR ?_;try simp only [setS]))|(refine BX ?_;first|refine BY rfl ?_|(refine BZ ?_;refine CA ?_)|refine CB (d0 rfl rfl) ?_|refine CB (t0' rfl rfl) ?_|refine CB (lcx kr5 rfl) ?_|refine CB (ltx kr5 rfl) ?_|refine CC ?_|(refine CD ?_;try simp only [setS]))|refine AA ?_|refine AC ?_|refine AD ?_|refine AE ?_|refine AF rfl rfl ?_|refine AG rfl rfl ?_|refine AH ?_|refine AI ?_|refine AJ ?_|refine AK ?_|refine AL ?_|refine AM ?_|refine AN ?_|refine AO ?_|refine AP ?_|refine AQ rfl ?_|refine AR ?_|refine AS ?_|refine AT rfl ?_|refine AU rfl ?_
      refine wd_alloc_s (by (try simp only [List.nil_append, List.cons_append]);repeat first|exact chk_nil|(apply chk_at;(focus exact rfl);first|exact pa_skp|(refine pa_mov ?_;first|exact (d0 rfl rfl)|exact (t0' rfl rfl)|exact (lcx kq rfl)|exact (ltx kq rfl)|exact rfl))) ?_
      simp only [setS]
      generalize h5.push (.rw [.int .i64 0, .int .i64 0]) = h6 at *
      repeat first|(refine BG ?_;first|(refine BH ?_;first|(refine BI ?_;refine BM ?_)|(refine BJ ?_;first|refine BN ?_|refine BO ?_)|refine BP ?_)|(refine BK ?_;first|refine BS rfl rfl ?_|refine BT rfl rfl ?_|refine BU rfl ?_)|(refine BL ?_;first|refine BQ ?_)|(refine BR ?_;try simp only [setS]))|(refine BX ?_;first|refine BY rfl ?_|(refine BZ ?_;refine CA ?_)|refine CC ?_|(refine CD ?_;try simp only [setS]))|refine AA ?_|refine AC ?_|refine AD ?_|refine AE ?_|refine AF rfl rfl ?_|refine AG rfl rfl ?_|refine AH ?_|refine AI ?_|refine AJ ?_|refine AK ?_|refine AL ?_|refine AM ?_|refine AN ?_|refine AO ?_|refine AP ?_|refine AQ rfl ?_|refine AR ?_|refine AS ?_|refine AT rfl ?_|refine AU rfl ?_
      refine wd_calls_e rfl ((lat_ok hE T.toQaS T.dright T.place T.between T.lat (((hser.up K).up K5).up kq) t0).mono fun x h7 ⟨k7, e7⟩ => ?_)
      subst e7
      rw [eat]
      have bq7 := bq.up k7
      have K7 := kq.and k7
      refine ⟨(by (try simp only [List.nil_append, List.cons_append]);repeat first|exact chk_nil|(apply chk_at;(focus exact rfl);first|exact pa_skp|exact (pa_alc bq7.get)|(refine pa_mov ?_;first|exact rfl))), ?_⟩
      repeat first|(refine BG ?_;first|(refine BH ?_;first|(refine BI ?_;refine BM ?_)|(refine BJ ?_;first|refine BN ?_|refine BO ?_)|refine BP ?_)|(refine BK ?_;first|refine BS rfl rfl ?_|refine BT rfl rfl ?_|refine BU rfl ?_)|(refine BL ?_;first|refine BQ ?_)|(refine BR ?_;try simp only [setS]))|(refine BX ?_;first|refine BY rfl ?_|(refine BZ ?_;refine CA ?_)|refine CC ?_|(refine CD ?_;try simp only [setS]))|refine AA ?_|refine AC ?_|refine AD ?_|refine AE ?_|refine AF rfl rfl ?_|refine AG rfl rfl ?_|refine AH ?_|refine AI ?_|refine AJ ?_|refine AK ?_|refine AL ?_|refine AM ?_|refine AN ?_|refine AO ?_|refine AP ?_|refine AQ rfl ?_|refine AR ?_|refine AS ?_|refine AT rfl ?_|refine AU rfl ?_
      obtain ⟨x1, x2⟩ := q
      refine wd_ef (ef_bxn bq7 rfl rfl rfl rfl (Nat.le_refl _)) (by (try simp only [List.nil_append, List.cons_append]);repeat first|exact chk_nil|(apply chk_at;(focus exact rfl);first|exact pa_skp|(refine pa_mov ?_;first|exact rfl))) ?_
      refine wd_heap (h' := h7.put h5.n (.rw [.int .i64 x1, .int .i64 x2])) rfl ?_
      have k8 : Keep NoB h5 (h7.put h5.n (.rw [.int .i64 x1, .int .i64 x2])) := K7.own (Keep.put _ _ _ (S := OneB h5.n) rfl) (fun k q => Nat.le_of_eq q.symm)
      have bq8 : Bx (h7.put h5.n (.rw [.int .i64 x1, .int .i64 x2])) h5.n [.int .i64 x1, .int .i64 x2] := bq7.put
      generalize h7.put h5.n (.rw [.int .i64 x1, .int .i64 x2]) = h8 at *
      obtain ⟨gm', om', m0', m1', m2', m3'⟩ := ((rm.up (K.and K5)).up k8).atS hpm
      have kr8 := Keep.refl (NoB) (h8 : Hp X)
      cases ok with
      | false =>
        simp only [Bool.false_eq_true, if_false, List.append_nil] at hst
        rw [← hst] at hatt ⊢
        repeat first|(refine BG ?_;first|(refine BH ?_;first|(refine BI ?_;refine BM ?_)|(refine BJ ?_;first|refine BN ?_|refine BO ?_)|refine BP ?_)|(refine BK ?_;first|refine BS rfl rfl ?_|refine BT rfl rfl ?_|refine BU rfl ?_)|(refine BL ?_;first|refine BQ ?_)|(refine BR ?_;try simp only [setS]))|(refine BX ?_;first|refine BY rfl ?_|refine (wd_gq rfl) ?_|(refine BZ ?_;refine CA ?_)|refine CC ?_|(refine CD ?_;try simp only [setS]))|refine AA ?_|refine AC ?_|refine AD ?_|refine AE ?_|refine AF rfl rfl ?_|refine AG rfl rfl ?_|refine AH ?_|refine AI ?_|refine AJ ?_|refine AK ?_|refine AL ?_|refine AM ?_|refine AN ?_|refine AO ?_|refine AP ?_|refine AQ rfl ?_|refine AR ?_|refine AS ?_|refine AT rfl ?_|refine AU rfl ?_
        rw [show ((j : Int) + 1) = ((j + 1 : Nat) : Int) by omega]
        exact round_norm (n2 - 1) (by omega) ⟨j + 1, _, _, _, _, _, _, _, by omega, by omega, K5.and k8, hatt, rfl⟩
      | true =>
        have hq := hqr rfl
        simp only [if_true] at hst
        have hmem : (x1, x2) ∈ valsA t0 ls := valsA_mem (List.mem_of_getElem? hl) (by rw [eat]) (by rw [eat])
        have hng := mG _ hmem
        have hlen1 : (valsA t0 (ls.take (j + 1))).length = (valsA t0 (ls.take j)).length + 1 := by rw [hst, List.length_append]; rfl
        have hin1 : mx t0 ∈ valsA t0 (ls.take (j + 1)) ↔ mx t0 ∈ valsA t0 (ls.take j) ∨ (x1, x2) = mx t0 := by rw [hst, List.mem_append, List.mem_singleton]; exact ⟨fun h => h.imp id Eq.symm, fun h => h.imp id Eq.symm⟩
        have hge : decide (mx t0 ∈ valsA t0 (ls.take (j + 1))) = (decide (mx t0 ∈ valsA t0 (ls.take j)) || decide ((x1, x2) = mx t0)) := by
          rw [decide_eq_decide.2 hin1, Bool.decide_or]
        by_cases hin : mx t0 ∈ valsA t0 (ls.take j)
        · rw [decide_eq_true hin] at hge hatt
          subst hatt
          rw [Bool.true_or] at hge
          repeat first|(refine BG ?_;first|(refine BH ?_;first|(refine BI ?_;refine BM ?_)|(refine BJ ?_;first|refine BN ?_|refine BO ?_)|refine BV (v_bxn bq8 rfl (Nat.le_refl _)) ?_|refine BV (m0' rfl rfl) ?_|refine BV (m2' kr8 rfl) ?_|refine BP ?_)|(refine BK ?_;first|refine BS rfl rfl ?_|refine BT rfl rfl ?_|refine BU rfl ?_)|(refine BL ?_;first|refine BQ ?_)|(refine BR ?_;try simp only [setS]))|(refine BX ?_;first|refine BY rfl ?_|(refine BZ ?_;refine CA ?_)|refine CB (v_bxn bq8 rfl (Nat.le_refl _)) ?_|refine CB (m0' rfl rfl) ?_|refine CB (m2' kr8 rfl) ?_|refine CC ?_|(refine CD ?_;try simp only [setS]))|refine AA ?_|refine AC ?_|refine AD ?_|refine AE ?_|refine AF rfl rfl ?_|refine AG rfl rfl ?_|refine AH ?_|refine AI ?_|refine AJ ?_|refine AK ?_|refine AL ?_|refine AM ?_|refine AN ?_|refine AO ?_|refine AP ?_|refine AQ rfl ?_|refine AR ?_|refine AS ?_|refine AT rfl ?_|refine AU rfl ?_
          refine wd_calls_e rfl ((rcmp_ok hE T.r hcmp (a := (x1, x2)) (b := mx t0) hq.i64 mR.i64).mono fun x h9 ⟨k9, e9⟩ => ?_)
          subst e9
          refine ⟨(by (try simp only [List.nil_append, List.cons_append]);repeat first|exact chk_nil|(apply chk_at;(focus exact rfl);first|exact pa_skp|(refine pa_mov ?_;first|exact rfl))), ?_⟩
          generalize cmpF (x1, x2) (mx t0) = cv at *
          repeat first|(refine BG ?_;first|(refine BH ?_;first|(refine BI ?_;refine BM ?_)|(refine BJ ?_;first|refine BN ?_|refine BO ?_)|refine BP ?_)|(refine BK ?_;first|refine BS rfl rfl ?_|refine BT rfl rfl ?_|refine BU rfl ?_)|(refine BL ?_;first|refine BQ ?_)|(refine BR ?_;try simp only [setS]))|(refine BX ?_;first|refine BY rfl ?_|refine (wd_gq rfl) ?_|(refine BZ ?_;refine CA ?_)|refine CC ?_|(refine CD ?_;try simp only [setS]))|refine AA ?_|refine AC ?_|refine AD ?_|refine AE ?_|refine AF rfl rfl ?_|refine AG rfl rfl ?_|refine AH ?_|refine AI ?_|refine AJ ?_|refine AK ?_|refine AL ?_|refine AM ?_|refine AN ?_|refine AO ?_|refine AP ?_|refine AQ rfl ?_|refine AR ?_|refine AS ?_|refine AT rfl ?_|refine AU rfl ?_
          rw [show (((valsA t0 (ls.take j)).length : Nat) : Int) + 1 = ((valsA t0 (ls.take (j + 1))).length : Nat) by omega, show ((j : Int) + 1) = ((j + 1 : Nat) : Int) by omega]
          exact round_norm (n2 - 1) (by omega) ⟨j + 1, _, _, _, _, _, _, _, by omega, by omega, (K5.and k8).and k9, hge.symm, rfl⟩
        · rw [decide_eq_false hin] at hge hatt
          subst hatt
          rw [Bool.false_or] at hge
          repeat first|(refine BG ?_;first|(refine BH ?_;first|(refine BI ?_;refine BM ?_)|(refine BJ ?_;first|refine BN ?_|refine BO ?_)|refine BV (v_bxn bq8 rfl (Nat.le_refl _)) ?_|refine BV (m0' rfl rfl) ?_|refine BV (m2' kr8 rfl) ?_|refine BP ?_)|(refine BK ?_;first|refine BS rfl rfl ?_|refine BT rfl rfl ?_|refine BU rfl ?_)|(refine BL ?_;first|refine BQ ?_)|(refine BR ?_;try simp only [setS]))|(refine BX ?_;first|refine BY rfl ?_|(refine BZ ?_;refine CA ?_)|refine CB (v_bxn bq8 rfl (Nat.le_refl _)) ?_|refine CB (m0' rfl rfl) ?_|refine CB (m2' kr8 rfl) ?_|refine CC ?_|(refine CD ?_;try simp only [setS]))|refine AA ?_|refine AC ?_|refine AD ?_|refine AE ?_|refine AF rfl rfl ?_|refine AG rfl rfl ?_|refine AH ?_|refine AI ?_|refine AJ ?_|refine AK ?_|refine AL ?_|refine AM ?_|refine AN ?_|refine AO ?_|refine AP ?_|refine AQ rfl ?_|refine AR ?_|refine AS ?_|refine AT rfl ?_|refine AU rfl ?_
          refine wd_calls_e rfl ((rcmp_ok hE T.r hcmp (a := (x1, x2)) (b := mx t0) hq.i64 mR.i64).mono fun x h9 ⟨k9, e9⟩ => ?_)
          subst e9
          refine ⟨(by (try simp only [List.nil_append, List.cons_append]);repeat first|exact chk_nil|(apply chk_at;(focus exact rfl);first|exact pa_skp|(refine pa_mov ?_;first|exact rfl))), ?_⟩
          generalize cmpF (x1, x2) (mx t0) = cv at *
          have bq9 := bq8.up k9
          have kr9 := Keep.refl (NoB) (h9 : Hp X)
          obtain ⟨gm2, om2, z0, z1, z2, z3⟩ := (((rm.up (K.and K5)).up k8).up k9).atS hpm
          by_cases heq : (x1, x2) = mx t0
          · rw [decide_eq_true heq] at hge
            repeat first|(refine BG ?_;first|(refine BH ?_;first|(refine BI ?_;refine BM ?_)|(refine BJ ?_;first|refine BN ?_|refine BO ?_)|refine BV (v_bxn bq9 rfl (Nat.le_refl _)) ?_|refine BV (z0 rfl rfl) ?_|refine BV (z2 kr9 rfl) ?_|refine BV (v_seq2t (a := (x1, x2)) (b := mx t0) rfl rfl heq) ?_|refine BP ?_)|(refine BK ?_;first|refine BS rfl rfl ?_|refine BT rfl rfl ?_|refine BU rfl ?_)|(refine BL ?_;first|refine BQ ?_)|(refine BR ?_;try simp only [setS]))|(refine BX ?_;first|refine BY rfl ?_|(refine BZ ?_;refine CA ?_)|refine CB (v_bxn bq9 rfl (Nat.le_refl _)) ?_|refine CB (z0 rfl rfl) ?_|refine CB (z2 kr9 rfl) ?_|refine CB (v_seq2t (a := (x1, x2)) (b := mx t0) rfl rfl heq) ?_|refine CC ?_|(refine CD ?_;try simp only [setS]))|refine AA ?_|refine AC ?_|refine AD ?_|refine AE ?_|refine AF rfl rfl ?_|refine AG rfl rfl ?_|refine AH ?_|refine AI ?_|refine AJ ?_|refine AK ?_|refine AL ?_|refine AM ?_|refine AN ?_|refine AO ?_|refine AP ?_|refine AQ rfl ?_|refine AR ?_|refine AS ?_|refine AT rfl ?_|refine AU rfl ?_
            rw [show (((valsA t0 (ls.take j)).length : Nat) : Int) + 1 = ((valsA t0 (ls.take (j + 1))).length : Nat) by omega, show ((j : Int) + 1) = ((j + 1 : Nat) : Int) by omega]
            exact round_norm (n2 - 1) (by omega) ⟨j + 1, _, _, _, _, _, _, _, by omega, by omega, (K5.and k8).and k9, hge.symm, rfl⟩
          · rw [decide_eq_false heq] at hge
            repeat first|(refine BG ?_;first|(refine BH ?_;first|(refine BI ?_;refine BM ?_)|(refine BJ ?_;first|refine BN ?_|refine BO ?_)|refine BV (v_bxn bq9 rfl (Nat.le_refl _)) ?_|refine BV (z0 rfl rfl) ?_|refine BV (z2 kr9 rfl) ?_|refine BV (v_seq2f (a := (x1, x2)) (b := mx t0) rfl rfl heq) ?_|refine BP ?_)|(refine BK ?_;first|refine BS rfl rfl ?_|refine BT rfl rfl ?_|refine BU rfl ?_)|(refine BL ?_;first|refine BQ ?_)|(refine BR ?_;try simp only [setS]))|(refine BX ?_;first|refine BY rfl ?_|(refine BZ ?_;refine CA ?_)|refine CB (v_bxn bq9 rfl (Nat.le_refl _)) ?_|refine CB (z0 rfl rfl) ?_|refine CB (z2 kr9 rfl) ?_|refine CB (v_seq2f (a := (x1, x2)) (b := mx t0) rfl rfl heq) ?_|refine CC ?_|(refine CD ?_;try simp only [setS]))|refine AA ?_|refine AC ?_|refine AD ?_|refine AE ?_|refine AF rfl rfl ?_|refine AG rfl rfl ?_|refine AH ?_|refine AI ?_|refine AJ ?_|refine AK ?_|refine AL ?_|refine AM ?_|refine AN ?_|refine AO ?_|refine AP ?_|refine AQ rfl ?_|refine AR ?_|refine AS ?_|refine AT rfl ?_|refine AU rfl ?_
            rw [show (((valsA t0 (ls.take j)).length : Nat) : Int) + 1 = ((valsA t0 (ls.take (j + 1))).length : Nat) by omega, show ((j : Int) + 1) = ((j + 1 : Nat) : Int) by omega]
            exact round_norm (n2 - 1) (by omega) ⟨j + 1, _, _, _, _, _, _, _, by omega, by omega, (K5.and k8).and k9, hge.symm, rfl⟩
    · obtain rfl : j = ls.length := by omega
      rw [List.take_length, decide_eq_true mM] at hatt
      subst hatt
      rw [List.take_length]
      obtain ⟨gc', oc', c0', c1', c2', c3'⟩ := ((rc.up K).up K5).atS hpc
      have kr5 := Keep.refl (NoB) (h5 : Hp X)
      repeat first|(refine BG ?_;first|(refine BH ?_;first|(refine BI ?_;refine BM ?_)|(refine BJ ?_;first|refine BN ?_|refine BO ?_)|refine BV (((hrs.up K).up K5).lenv (by rfl)) ?_|refine BV (c0' rfl rfl) ?_|refine BV (c2' kr5 rfl) ?_|refine BV (v_bldn rfl) ?_|refine BV (v_seq2tt (a := (((valsA t0 ls).length : Int), 1)) (b := (((valsA t0 ls).length : Int), 1)) rfl rfl rfl) ?_|refine BV (v_notb rfl) ?_|refine BP ?_)|(refine BK ?_;first|refine BS rfl rfl ?_|refine BT rfl rfl ?_|refine BU rfl ?_)|(refine BL ?_;first|refine BQ ?_)|(refine BR ?_;try simp only [setS]))|refine AA ?_|refine AC ?_|refine AD ?_|refine AE ?_|refine AF rfl rfl ?_|refine AG rfl rfl ?_|refine AH ?_|refine AI ?_|refine AJ ?_|refine AK ?_|refine AL ?_|refine AM ?_|refine AN ?_|refine AO ?_|refine AP ?_|refine AQ rfl ?_|refine AR ?_|refine AS ?_|refine AT rfl ?_|refine AU rfl ?_
      rw [show ((i : Int) + 1) = ((i + 1 : Nat) : Int) by omega]
      exact round_norm (n - 1) (by omega) ⟨i + 1, _, _, _, _, _, _, _, _, _, _, _, _, by omega, by omega, K.and K5, rfl⟩
  · repeat first|(refine BG ?_;first|(refine BH ?_;first|(refine BI ?_;refine BM ?_)|(refine BJ ?_;first|refine BN ?_|refine BO ?_)|refine BV ((rT4.up K).lenv (by rfl)) ?_|refine BP ?_)|(refine BK ?_;first|refine BS rfl rfl ?_|refine BT rfl rfl ?_|refine BU rfl ?_)|(refine BL ?_;first|refine BQ ?_)|(refine BR ?_;try simp only [setS]))|refine AA ?_|refine AC ?_|refine AD ?_|refine AE ?_|refine AF rfl rfl ?_|refine AG rfl rfl ?_|refine AH ?_|refine AI ?_|refine AJ ?_|refine AK ?_|refine AL ?_|refine AM ?_|refine AN ?_|refine AO ?_|refine AP ?_|refine AQ rfl ?_|refine AR ?_|refine AS ?_|refine AT rfl ?_|refine AU rfl ?_
    refine wr_call_e rfl ((wf_true hE T.known).mono fun x h5 ⟨e5, e6⟩ => ?_)
    subst e6
    repeat first|(refine BG ?_;first|(refine BH ?_;first|(refine BI ?_;refine BM ?_)|(refine BJ ?_;first|refine BN ?_|refine BO ?_)|refine BP ?_)|(refine BK ?_;first|refine BS rfl rfl ?_|refine BT rfl rfl ?_|refine BU rfl ?_)|(refine BL ?_;first|refine BQ ?_)|(refine BR ?_;try simp only [setS]))|refine AA ?_|refine AC ?_|refine AD ?_|refine AE ?_|refine AF rfl rfl ?_|refine AG rfl rfl ?_|refine AH ?_|refine AI ?_|refine AJ ?_|refine AK ?_|refine AL ?_|refine AM ?_|refine AN ?_|refine AO ?_|refine AP ?_|refine AQ rfl ?_|refine AR ?_|refine AS ?_|refine AT rfl ?_|refine AU rfl ?_
    rfl
end
end Am
end Go.Proofs.Ytkgplkddpigagaa
