/- Layer 23: what its laws draw: Within, Rat, Samples; Same. -/
import Derived.Test.YtkgplkddpigagaaQaR
set_option linter.unusedVariables false
set_option linter.unusedSimpArgs false
namespace Go.Proofs.Ytkgplkddpigagaa
namespace Am
open Go.RowKit
set_option maxRecDepth 100000
def b_Within : BF := ⟨33, [0, 1, 2, 6, 14, 23], (.seq (.reg [.mk none (.slot 3) (.mov (.mv (.const (.int .i64 0))))]) (.seq (.seq (.reg [.mk none (.env 7) (.mov (.mv (.slot 0))), .mk none (.env 8) (.mov (.mv (.slot 1))), .mk none (.env 9) (.mov (.bin .geq .no (.env 7) (.env 8))), .mk none (.env 10) (.mov (.mv (.env 9))), .mk (some ((.env 10), true)) (.env 11) (.mov (.mv (.slot 0))), .mk (some ((.env 10), true)) (.env 12) (.mov (.mv (.slot 2))), .mk (some ((.env 10), true)) (.env 13) (.mov (.bin .leq .no (.env 11) (.env 12))), .mk none (.slot 4) (.mov (.pick (.env 10) (.env 13) (.const (.bool false))))]) (.cond (.slot 4) (.seq (.reg [.mk none (.env 15) (.mov (.mv (.slot 0))), .mk none (.slot 3) (.mov (.mv (.env 15)))]) .ret) .skip)) (.seq (.reg [.mk none (.env 16) (.mov (.mv (.slot 0))), .mk none (.env 17) (.mov (.mv (.slot 2))), .mk none (.env 18) (.mov (.mv (.slot 1))), .mk none (.env 19) (.mov (.bin .sub .no (.env 17) (.env 18))), .mk none (.env 20) (.mov (.bin .add .no (.env 19) (.const (.int .i64 1)))), .mk none (.env 21) (.mov (.bin .rem .no (.env 16) (.env 20))), .mk none (.slot 0) (.mov (.mv (.env 21)))]) (.seq (.seq (.reg [.mk none (.env 22) (.mov (.mv (.slot 0))), .mk none (.slot 5) (.mov (.bin .lss .no (.env 22) (.const (.int .i64 0))))]) (.cond (.slot 5) (.reg [.mk none (.env 24) (.mov (.mv (.slot 0))), .mk none (.env 25) (.mov (.mv (.slot 2))), .mk none (.env 26) (.mov (.bin .add .no (.env 24) (.env 25))), .mk none (.env 27) (.mov (.mv (.slot 1))), .mk none (.env 28) (.mov (.bin .sub .no (.env 26) (.env 27))), .mk none (.env 29) (.mov (.bin .add .no (.env 28) (.const (.int .i64 1)))), .mk none (.slot 0) (.mov (.mv (.env 29)))]) .skip)) (.seq (.reg [.mk none (.env 30) (.mov (.mv (.slot 1))), .mk none (.env 31) (.mov (.mv (.slot 0))), .mk none (.env 32) (.mov (.bin .add .no (.env 30) (.env 31))), .mk none (.slot 3) (.mov (.mv (.env 32)))]) .ret))))), [.slot (.slot 3)]⟩
def b_keepRat : BF := ⟨36, [0, 1, 4, 5, 6, 7, 14, 26], (.seq (.reg [.mk none (.slot 2) (.eff (.alloc [(.int .i64 0), (.int .i64 0)]))]) (.seq (.reg [.mk none (.env 8) (.mov (.mv (.slot 0))), .mk none (.env 9) (.call 8 [(.env 8), (.const (.int .i64 (-60))), (.const (.int .i64 60))]), .mk none (.env 10) (.mov (.mv (.slot 1))), .mk none (.env 11) (.call 8 [(.env 10), (.const (.int .i64 1)), (.const (.int .i64 12))]), .mk none (.slot 3) (.mov (.mv (.env 9))), .mk none (.slot 4) (.mov (.mv (.env 11)))]) (.seq (.seq (.reg [.mk none (.slot 5) (.mov (.mv (.const (.int .i64 2))))]) (.block 0 (.loop (.seq (.seq (.reg [.mk none (.env 12) (.mov (.mv (.slot 5))), .mk none (.env 13) (.mov (.mv (.slot 4))), .mk none (.slot 6) (.mov (.bin .leq .no (.env 12) (.env 13)))]) (.cond (.slot 6) .skip (.exit 0))) (.seq (.block 1 (.block 2 (.loop (.seq (.seq (.reg [.mk none (.env 17) (.mov (.mv (.slot 3))), .mk none (.env 18) (.mov (.mv (.slot 5))), .mk none (.env 19) (.mov (.bin .rem .no (.env 17) (.env 18))), .mk none (.env 20) (.mov (.bin .eql .no (.env 19) (.const (.int .i64 0)))), .mk none (.env 21) (.mov (.mv (.env 20))), .mk (some ((.env 21), true)) (.env 22) (.mov (.mv (.slot 4))), .mk (some ((.env 21), true)) (.env 23) (.mov (.mv (.slot 5))), .mk (some ((.env 21), true)) (.env 24) (.mov (.bin .rem .no (.env 22) (.env 23))), .mk (some ((.env 21), true)) (.env 25) (.mov (.bin .eql .no (.env 24) (.const (.int .i64 0)))), .mk none (.slot 7) (.mov (.pick (.env 21) (.env 25) (.const (.bool false))))]) (.cond (.slot 7) .skip (.exit 2))) (.block 3 (.dreg [(.mk none (.env 27) (.mov (.mv (.slot 3))), []), (.mk none (.env 28) (.mov (.mv (.slot 5))), []), (.mk none (.env 29) (.mov (.bin .quo .no (.env 27) (.env 28))), []), (.mk none (.env 30) (.mov (.mv (.slot 4))), []), (.mk none (.env 31) (.mov (.mv (.slot 5))), []), (.mk none (.env 32) (.mov (.bin .quo .no (.env 30) (.env 31))), []), (.mk none (.slot 3) (.mov (.mv (.env 29))), []), (.mk none (.slot 4) (.mov (.mv (.env 32))), [])])))))) (.reg [.mk none (.env 15) (.mov (.mv (.slot 5))), .mk none (.env 16) (.mov (.bin .add .no (.env 15) (.const (.int .i64 1)))), .mk none (.slot 5) (.mov (.mv (.env 16)))])))))) (.seq (.reg [.mk none (.env 33) (.mov (.mv (.slot 3))), .mk none (.env 34) (.mov (.mv (.slot 4))), .mk none (.env 35) (.mov (.bld [(.int .i64 0), (.int .i64 0)] [(0, 1, (.env 33)), (1, 1, (.env 34))])), .mk none .none (.eff (.store 2 (.slot 2) (.env 35)))]) .ret)))), [.celln 2 (.slot 2)]⟩
def b_keepSamples : BF := ⟨51, [0, 1, 2, 6, 7, 8, 9, 10, 19, 25], (.seq (.reg [.mk none (.slot 3) (.mov (.mv (.const .snil)))]) (.seq (.reg [.mk none (.slot 4) (.mov (.mv (.const .snil)))]) (.seq (.reg [.mk none (.slot 5) (.mov (.mv (.const (.int .i64 0))))]) (.seq (.seq (.reg [.mk none (.slot 6) (.mov (.mv (.const (.int .i64 0))))]) (.block 0 (.loop (.seq (.seq (.reg [.mk none (.env 11) (.mov (.mv (.slot 6))), .mk none (.env 12) (.mov (.mv (.slot 0))), .mk none (.env 13) (.mov (.lenv (.env 12))), .mk none (.env 14) (.mov (.bin .lss .no (.env 11) (.env 13))), .mk none (.env 15) (.mov (.mv (.env 14))), .mk (some ((.env 15), true)) (.env 16) (.mov (.mv (.slot 6))), .mk (some ((.env 15), true)) (.env 17) (.mov (.mv (.slot 2))), .mk (some ((.env 15), true)) (.env 18) (.mov (.bin .lss .no (.env 16) (.env 17))), .mk none (.slot 8) (.mov (.pick (.env 15) (.env 18) (.const (.bool false))))]) (.cond (.slot 8) .skip (.exit 0))) (.seq (.block 1 (.seq (.reg [.mk none (.slot 7) (.mov (.mv (.const (.int .i64 0))))]) (.seq (.seq (.reg [.mk none (.env 22) (.mov (.mv (.slot 6))), .mk none (.env 23) (.mov (.mv (.slot 1))), .mk none (.env 24) (.mov (.lenv (.env 23))), .mk none (.slot 9) (.mov (.bin .lss .no (.env 22) (.env 24)))]) (.cond (.slot 9) (.reg [.mk none (.env 26) (.mov (.mv (.slot 1))), .mk none (.env 27) (.mov (.mv (.slot 6))), .mk none (.env 28) (.mov (.iaddr 1 (.env 26) (.env 27))), .mk none (.env 29) (.mov (.ld1 (.env 28))), .mk none (.slot 7) (.mov (.mv (.env 29)))]) .skip)) (.seq (.reg [.mk none (.env 30) (.mov (.mv (.slot 4))), .mk none (.env 31) (.mov (.mv (.slot 5))), .mk none (.env 32) (.mov (.mv (.slot 7))), .mk none (.env 33) (.mov (.mv (.slot 7))), .mk none (.env 34) (.mov (.bin .rem .no (.env 33) (.const (.int .i64 5)))), .mk none (.env 35) (.mov (.mv (.slot 7))), .mk none (.env 36) (.mov (.bin .mul .no (.env 34) (.env 35))), .mk none (.env 37) (.mov (.bin .rem .no (.env 36) (.const (.int .i64 5)))), .mk none (.env 38) (.mov (.bin .add .no (.const (.int .i64 1)) (.env 37))), .mk none (.env 39) (.call 21 [(.env 32), (.env 38)]), .mk none (.env 40) (.mov (.bld [(.int .i64 0), (.int .i64 0), (.int .i64 0)] [(0, 1, (.env 31)), (1, 2, (.env 39))])), .mk none (.env 41) (.eff (.bslice 3 1 [(.int .i64 0), (.int .i64 0), (.int .i64 0)] [(0, 3, (.env 40))])), .mk none (.env 42) (.eff (.append 3 24 (.env 30) (.env 41))), .mk none (.slot 4) (.mov (.mv (.env 42)))]) (.reg [.mk none (.env 43) (.mov (.mv (.slot 5))), .mk none (.env 44) (.mov (.mv (.slot 0))), .mk none (.env 45) (.mov (.mv (.slot 6))), .mk none (.env 46) (.mov (.iaddr 1 (.env 44) (.env 45))), .mk none (.env 47) (.mov (.ld1 (.env 46))), .mk none (.env 48) (.call 8 [(.env 47), (.const (.int .i64 1)), (.const (.int .i64 40))]), .mk none (.env 49) (.mov (.bin .add .no (.env 43) (.env 48))), .mk none (.slot 5) (.mov (.mv (.env 49)))]))))) (.reg [.mk none (.env 20) (.mov (.mv (.slot 6))), .mk none (.env 21) (.mov (.bin .add .no (.env 20) (.const (.int .i64 1)))), .mk none (.slot 6) (.mov (.mv (.env 21)))])))))) (.seq (.reg [.mk none (.env 50) (.mov (.mv (.slot 4))), .mk none (.slot 3) (.mov (.mv (.env 50)))]) .ret))))), [.slot (.slot 3)]⟩
def b_ref21Same : BF := ⟨26, [0, 1, 4, 5, 10, 14, 25], (.seq (.reg [.mk none (.slot 2) (.mov (.mv (.const (.bool false))))]) (.seq (.seq (.reg [.mk none (.env 6) (.mov (.mv (.slot 0))), .mk none (.env 7) (.mov (.lenv (.env 6))), .mk none (.env 8) (.mov (.mv (.slot 1))), .mk none (.env 9) (.mov (.lenv (.env 8))), .mk none (.slot 4) (.mov (.bin .neq .no (.env 7) (.env 9)))]) (.cond (.slot 4) (.seq (.reg [.mk none (.slot 2) (.mov (.mv (.const (.bool false))))]) .ret) .skip)) (.seq (.seq (.reg [.mk none (.slot 3) (.mov (.mv (.const (.int .i64 0))))]) (.block 0 (.loop (.seq (.seq (.reg [.mk none (.env 11) (.mov (.mv (.slot 3))), .mk none (.env 12) (.mov (.mv (.slot 0))), .mk none (.env 13) (.mov (.lenv (.env 12))), .mk none (.slot 5) (.mov (.bin .lss .no (.env 11) (.env 13)))]) (.cond (.slot 5) .skip (.exit 0))) (.seq (.block 1 (.seq (.dreg [(.mk none (.env 17) (.mov (.mv (.slot 0))), []), (.mk none (.env 18) (.mov (.mv (.slot 3))), []), (.mk none (.env 19) (.mov (.iaddr 3 (.env 17) (.env 18))), []), (.mk none (.env 20) (.mov (.ldn 3 (.env 19))), []), (.mk none (.env 21) (.mov (.mv (.slot 1))), []), (.mk none (.env 22) (.mov (.mv (.slot 3))), []), (.mk none (.env 23) (.mov (.iaddr 3 (.env 21) (.env 22))), []), (.mk none (.env 24) (.mov (.ldn 3 (.env 23))), []), (.mk none (.slot 6) (.mov (.seq true [0, 0, 0] (.env 20) (.env 24))), [])]) (.cond (.slot 6) (.seq (.reg [.mk none (.slot 2) (.mov (.mv (.const (.bool false))))]) .ret) .skip))) (.reg [.mk none (.env 15) (.mov (.mv (.slot 3))), .mk none (.env 16) (.mov (.bin .add .no (.env 15) (.const (.int .i64 1)))), .mk none (.slot 3) (.mov (.mv (.env 16)))])))))) (.seq (.reg [.mk none (.slot 2) (.mov (.mv (.const (.bool true))))]) .ret)))), [.slot (.slot 2)]⟩
def withinF (n lo hi : Int) : Int := if lo ≤ n ∧ n ≤ hi then n else lo + (if n.tmod (hi - lo + 1) < 0 then n.tmod (hi - lo + 1) + hi - lo + 1 else n.tmod (hi - lo + 1))
theorem tmod_bounds {n m : Int} (hm : 0 < m) : -m < n.tmod m ∧ n.tmod m < m := by
  have h1 := Int.tmod_lt_of_pos n hm
  have h2 : -m < n.tmod m := by
    have := Int.tmod_lt_of_pos (-n) hm
    rw [Int.neg_tmod] at this
    omega
  exact ⟨h2, h1⟩
theorem withinF_in {n lo hi : Int} (h : lo ≤ hi) : lo ≤ withinF n lo hi ∧ withinF n lo hi ≤ hi := by
  unfold withinF
  split
  · assumption
  · have := tmod_bounds (n := n) (m := hi - lo + 1) (by omega)
    split <;> omega
section
variable {X : Type} {E : Nat → Option (Ent X)}
theorem within_ok (hE : ∀ f e, E f = some e → e.plain) (hf : E 8 = some (.bc b_Within)) {h : Hp X} {n lo hi : Int} (hn : I64 n) (h1 : -1000000000 ≤ lo) (h2 : lo ≤ hi) (h3 : hi ≤ 1000000000) :
    WF (lim E) 8 [.int .i64 n, .int .i64 lo, .int .i64 hi] h fun r h' => h' = h ∧ r = .int .i64 (withinF n lo hi) := by
  refine wf_bc hE hf rfl ?_
  simp only [b_Within, List.map, getS]
  obtain ⟨n1, n2⟩ := hn
  unfold withinF
  by_cases c1 : lo ≤ n
  · by_cases c2 : n ≤ hi
    · rw [if_pos ⟨c1, c2⟩]
      repeat first|(refine BG ?_;first|(refine BH ?_;first|(refine BI ?_;refine BM ?_)|(refine BJ ?_;first|refine BN ?_|refine BO ?_)|refine BP ?_)|(refine BK ?_;first|refine BS rfl rfl ?_|refine BT rfl rfl ?_|refine BU rfl ?_)|(refine BL ?_;first|refine BQ ?_)|(refine BR ?_;try simp only [setS]))|refine AA ?_|refine AC ?_|refine AD ?_|refine AE ?_|refine AF rfl rfl ?_|refine AG rfl rfl ?_|refine AH ?_|refine AI ?_|refine AJ ?_|refine AK ?_|refine AL ?_|refine AM ?_|refine AN ?_|refine AO ?_|refine AP ?_|refine AQ rfl ?_|refine AR ?_|refine AS ?_|refine AT rfl ?_|refine AU rfl ?_
      exact ⟨rfl, rfl⟩
    · rw [if_neg (fun q => c2 q.2)]
      have := tmod_bounds (n := n) (m := hi - lo + 1) (by omega)
      by_cases c3 : n.tmod (hi - lo + 1) < 0
      · rw [if_pos c3]
        repeat first|(refine BG ?_;first|(refine BH ?_;first|(refine BI ?_;refine BM ?_)|(refine BJ ?_;first|refine BN ?_|refine BO ?_)|refine BV (v_rem rfl rfl (by omega)) ?_|refine BP ?_)|(refine BK ?_;first|refine BS rfl rfl ?_|refine BT rfl rfl ?_|refine BU rfl ?_)|(refine BL ?_;first|refine BQ ?_)|(refine BR ?_;try simp only [setS]))|refine AA ?_|refine AC ?_|refine AD ?_|refine AE ?_|refine AF rfl rfl ?_|refine AG rfl rfl ?_|refine AH ?_|refine AI ?_|refine AJ ?_|refine AK ?_|refine AL ?_|refine AM ?_|refine AN ?_|refine AO ?_|refine AP ?_|refine AQ rfl ?_|refine AR ?_|refine AS ?_|refine AT rfl ?_|refine AU rfl ?_
        exact ⟨rfl, rfl⟩
      · rw [if_neg c3]
        repeat first|(refine BG ?_;first|(refine BH ?_;first|(refine BI ?_;refine BM ?_)|(refine BJ ?_;first|refine BN ?_|refine BO ?_)|refine BV (v_rem rfl rfl (by omega)) ?_|refine BP ?_)|(refine BK ?_;first|refine BS rfl rfl ?_|refine BT rfl rfl ?_|refine BU rfl ?_)|(refine BL ?_;first|refine BQ ?_)|(refine BR ?_;try simp only [setS]))|refine AA ?_|refine AC ?_|refine AD ?_|refine AE ?_|refine AF rfl rfl ?_|refine AG rfl rfl ?_|refine AH ?_|refine AI ?_|refine AJ ?_|refine AK ?_|refine AL ?_|refine AM ?_|refine AN ?_|refine AO ?_|refine AP ?_|refine AQ rfl ?_|refine AR ?_|refine AS ?_|refine AT rfl ?_|refine AU rfl ?_
        exact ⟨rfl, rfl⟩
  · rw [if_neg (fun q => c1 q.1)]
    have := tmod_bounds (n := n) (m := hi - lo + 1) (by omega)
    by_cases c3 : n.tmod (hi - lo + 1) < 0
    · rw [if_pos c3]
      repeat first|(refine BG ?_;first|(refine BH ?_;first|(refine BI ?_;refine BM ?_)|(refine BJ ?_;first|refine BN ?_|refine BO ?_)|refine BV (v_rem rfl rfl (by omega)) ?_|refine BP ?_)|(refine BK ?_;first|refine BS rfl rfl ?_|refine BT rfl rfl ?_|refine BU rfl ?_)|(refine BL ?_;first|refine BQ ?_)|(refine BR ?_;try simp only [setS]))|refine AA ?_|refine AC ?_|refine AD ?_|refine AE ?_|refine AF rfl rfl ?_|refine AG rfl rfl ?_|refine AH ?_|refine AI ?_|refine AJ ?_|refine AK ?_|refine AL ?_|refine AM ?_|refine AN ?_|refine AO ?_|refine AP ?_|refine AQ rfl ?_|refine AR ?_|refine AS ?_|refine AT rfl ?_|refine AU rfl ?_
      exact ⟨rfl, rfl⟩
    · rw [if_neg c3]
      repeat first|(refine BG ?_;first|(refine BH ?_;first|(refine BI ?_;refine BM ?_)|(refine BJ ?_;first|refine BN ?_|refine BO ?_)|refine BV (v_rem rfl rfl (by omega)) ?_|refine BP ?_)|(refine BK ?_;first|refine BS rfl rfl ?_|refine BT rfl rfl ?_|refine BU rfl ?_)|(refine BL ?_;first|refine BQ ?_)|(refine BR ?_;try simp only [setS]))|refine AA ?_|refine AC ?_|refine AD ?_|refine AE ?_|refine AF rfl rfl ?_|refine AG rfl rfl ?_|refine AH ?_|refine AI ?_|refine AJ ?_|refine AK ?_|refine AL ?_|refine AM ?_|refine AN ?_|refine AO ?_|refine AP ?_|refine AQ rfl ?_|refine AR ?_|refine AS ?_|refine AT rfl ?_|refine AU rfl ?_
      exact ⟨rfl, rfl⟩
end
structure SmallQ (q : QQ) : Prop where
  n0 : -60 ≤ q.1
  n1 : q.1 ≤ 60
  d0 : 1 ≤ q.2
  d1 : q.2 ≤ 12
  cop : gq q.1 q.2 = 1
theorem SmallQ.right {q : QQ} (a : SmallQ q) : rightF q = true := by
  have h1 := a.n0
  have h2 := a.n1
  have h3 := a.d0
  have h4 := a.d1
  exact right_iff.2 ⟨by omega, by simp only [maxN]; omega, by simp only [maxN]; omega, by simp only [maxN]; omega, a.cop⟩
theorem SmallQ.i64 {q : QQ} (a : SmallQ q) : I64Q q := (right_iff.1 a.right).i64
section
variable {X : Type} {e : En} {t : List AV} {h : Hp X}
theorem tdiv_le {a b : Int} (hb : 0 < b) : -(a.natAbs : Int) ≤ a.tdiv b ∧ a.tdiv b ≤ a.natAbs := by
  have h1 : (a.tdiv b).natAbs ≤ a.natAbs := by rw [Int.natAbs_tdiv]; exact Nat.div_le_self ..
  omega
theorem v_quoi {q : Eq} {x y : Od} {a b : Int} (hx : x.ev e t = .int .i64 a) (hy : y.ev e t = .int .i64 b) (hb : 0 < b) (ha : -4611686018427387904 ≤ a ∧ a ≤ 4611686018427387904) : (Mv.bin .quo q x y).ev e t h = some (.int .i64 (a.tdiv b)) := by
  have h1 := tdiv_le (a := a) hb
  simp only [Mv.ev, hx, hy, Am.bin, AV.onInt, isShift, intOp]
  simp only [Bool.false_or, decide_true, cond_true]
  rw [if_neg (by omega), wr64 (by omega)]
theorem v_mulw {q : Eq} {x y : Od} {a b : Int} (hx : x.ev e t = .int .i64 a) (hy : y.ev e t = .int .i64 b) : (Mv.bin .mul q x y).ev e t h = some (.int .i64 (wr .i64 (a * b))) := by simp [Mv.ev, hx, hy, Am.bin, AV.onInt, intOp, isShift]
end
theorem tdiv_mul {a k : Int} (hk : 0 < k) (h : a.tmod k = 0) : a.tdiv k * k = a := by
  exact Int.tdiv_mul_cancel (Int.dvd_of_tmod_eq_zero h)
theorem tmod_of_dvd {a : Int} {k : Nat} (h : k ∣ a.natAbs) : a.tmod k = 0 := Int.tmod_eq_zero_of_dvd (Int.ofNat_dvd_left.2 h)
theorem fin_q1 {X : Type} {h : Hp X} {t : List AV} {g : Nat} {x : Od} {q : QQ} {P : AV → Hp X → Prop} (bx : Bx h g [.int .i64 q.1, .int .i64 q.2]) (hx : x.ev [] t = .ptr g 0) (hp : P (qv q) h) : finQ [.celln 2 x] P (.ret t h) := by
  refine AT (l := [.agg [.int .i64 q.1, .int .i64 q.2]]) ?_ hp
  have h1 : (Rs.celln 2 x).ev t h = some (.agg [.int .i64 q.1, .int .i64 q.2]) := v_bxn bx hx (Nat.le_refl _)
  simp only [resV, h1]
theorem dvd_of_div {a k : Int} {j : Nat} (hk : 0 < k) (h : a.tmod k = 0) (hj : j ∣ (a.tdiv k).natAbs) : j ∣ a.natAbs := by
  have e := tdiv_mul hk h
  rw [← e, Int.natAbs_mul]
  exact Nat.dvd_trans hj (Nat.dvd_mul_right ..)
section
variable {X : Type} {E : Nat → Option (Ent X)}
structure QsT (E : Nat → Option (Ent X)) : Prop where
  within : E 8 = some (.bc b_Within)
  rat : E 21 = some (.bc b_keepRat)
  samples : E 11 = some (.bc b_keepSamples)
  same : E 13 = some (.bc b_ref21Same)
set_option maxHeartbeats 1000000 in
theorem krat_ok (hE : ∀ f e, E f = some e → e.plain) (T : QsT E) {h : Hp X} {n d : Int} (hn : I64 n) (hd : I64 d) : WF (lim E) 21 [.int .i64 n, .int .i64 d] h fun x h' => Keep NoB h h' ∧ ∃ q, x = qv q ∧ SmallQ q := by
  refine wf_bc hE T.rat rfl ?_
  simp only [b_keepRat, List.map, getS]
  have bx : Bx (h.push (.rw [.int .i64 0, .int .i64 0])) h.n [.int .i64 0, .int .i64 0] := bx_push
  have kp : Keep NoB h (h.push (.rw [.int .i64 0, .int .i64 0])) := Keep.push _ _ _
  repeat first|(refine BG ?_;first|(refine BH ?_;first|(refine BI ?_;refine BM ?_)|(refine BJ ?_;first|refine BN ?_|refine BO ?_)|refine BP ?_)|(refine BK ?_;first|refine BS rfl rfl ?_|refine BT rfl rfl ?_|refine BU rfl ?_)|(refine BL ?_;first|refine BQ ?_)|(refine BR ?_;try simp only [setS]))|refine AA ?_|refine AC ?_|refine AD ?_|refine AE ?_|refine AF rfl rfl ?_|refine AG rfl rfl ?_|refine AH ?_|refine AI ?_|refine AJ ?_|refine AK ?_|refine AL ?_|refine AM ?_|refine AN ?_|refine AO ?_|refine AP ?_|refine AQ rfl ?_|refine AR ?_|refine AS ?_|refine AT rfl ?_|refine AU rfl ?_
  refine wr_call_e rfl ((within_ok hE T.within hn (lo := -60) (hi := 60) (by omega) (by omega) (by omega)).mono fun z h1 ⟨e1, e2⟩ => ?_)
  subst e2
  have e1 := e1.symm
  subst e1
  have hw := withinF_in (n := n) (lo := -60) (hi := 60) (by omega)
  generalize withinF n (-60) 60 = a0 at *
  repeat first|(refine BG ?_;first|(refine BH ?_;first|(refine BI ?_;refine BM ?_)|(refine BJ ?_;first|refine BN ?_|refine BO ?_)|refine BP ?_)|(refine BK ?_;first|refine BS rfl rfl ?_|refine BT rfl rfl ?_|refine BU rfl ?_)|(refine BL ?_;first|refine BQ ?_)|(refine BR ?_;try simp only [setS]))|refine AA ?_|refine AC ?_|refine AD ?_|refine AE ?_|refine AF rfl rfl ?_|refine AG rfl rfl ?_|refine AH ?_|refine AI ?_|refine AJ ?_|refine AK ?_|refine AL ?_|refine AM ?_|refine AN ?_|refine AO ?_|refine AP ?_|refine AQ rfl ?_|refine AR ?_|refine AS ?_|refine AT rfl ?_|refine AU rfl ?_
  refine wr_call_e rfl ((within_ok hE T.within hd (lo := 1) (hi := 12) (by omega) (by omega) (by omega)).mono fun z h1 ⟨e1, e2⟩ => ?_)
  subst e2
  have e1 := e1.symm
  subst e1
  have hw2 := withinF_in (n := d) (lo := 1) (hi := 12) (by omega)
  generalize withinF d 1 12 = b0 at *
  generalize h.push (.rw [.int .i64 0, .int .i64 0]) = h1 at *
  repeat first|(refine BG ?_;first|(refine BH ?_;first|(refine BI ?_;refine BM ?_)|(refine BJ ?_;first|refine BN ?_|refine BO ?_)|refine BP ?_)|(refine BK ?_;first|refine BS rfl rfl ?_|refine BT rfl rfl ?_|refine BU rfl ?_)|(refine BL ?_;first|refine BQ ?_)|(refine BR ?_;try simp only [setS]))|refine AA ?_|refine AC ?_|refine AD ?_|refine AE ?_|refine AF rfl rfl ?_|refine AG rfl rfl ?_|refine AH ?_|refine AI ?_|refine AJ ?_|refine AK ?_|refine AL ?_|refine AM ?_|refine AN ?_|refine AO ?_|refine AP ?_|refine AQ rfl ?_|refine AR ?_|refine AS ?_|refine AT rfl ?_|refine AU rfl ?_
  refine wb_loop (fun m t hh => ∃ (k : Nat) (a b : Int) (s6 s7 : AV), m = 14 - k ∧ 2 ≤ k ∧ k ≤ 13 ∧ hh = h1 ∧ (-60 ≤ a ∧ a ≤ 60) ∧ (1 ≤ b ∧ b ≤ 12) ∧ (∀ j : Nat, 2 ≤ j → j < k → ¬ (j ∣ a.natAbs ∧ j ∣ b.natAbs)) ∧ t = [.int .i64 n, .int .i64 d, .ptr h.n 0, .int .i64 a, .int .i64 b, .int .i64 k, s6, s7]) ?_ 12 _ _ ⟨2, a0, b0, _, _, rfl, by omega, by omega, rfl, hw, hw2, by omega, rfl⟩
  rintro m t hh ⟨k, a, b, s6, s7, hm, hk2, hk13, eh, ha, hb, hno, rfl⟩
  have eh := eh.symm
  subst eh
  by_cases hkb : (k : Int) ≤ b
  · have hk12 : k ≤ 12 := by omega
    repeat first|(refine BG ?_;first|(refine BH ?_;first|(refine BI ?_;refine BM ?_)|(refine BJ ?_;first|refine BN ?_|refine BO ?_)|refine BP ?_)|(refine BK ?_;first|refine BS rfl rfl ?_|refine BT rfl rfl ?_|refine BU rfl ?_)|(refine BL ?_;first|refine BQ ?_)|(refine BR ?_;try simp only [setS]))|refine AA ?_|refine AC ?_|refine AD ?_|refine AE ?_|refine AF rfl rfl ?_|refine AG rfl rfl ?_|refine AH ?_|refine AI ?_|refine AJ ?_|refine AK ?_|refine AL ?_|refine AM ?_|refine AN ?_|refine AO ?_|refine AP ?_|refine AQ rfl ?_|refine AR ?_|refine AS ?_|refine AT rfl ?_|refine AU rfl ?_
    refine wb_loop (fun m2 t hh => ∃ (a b : Int) (s7 : AV), m2 = b.natAbs ∧ hh = h1 ∧ (-60 ≤ a ∧ a ≤ 60) ∧ (1 ≤ b ∧ b ≤ 12) ∧ (∀ j : Nat, 2 ≤ j → j < k → ¬ (j ∣ a.natAbs ∧ j ∣ b.natAbs)) ∧ t = [.int .i64 n, .int .i64 d, .ptr h.n 0, .int .i64 a, .int .i64 b, .int .i64 k, .bool true, s7]) ?_ b.natAbs _ _ ⟨a, b, _, rfl, rfl, ha, hb, hno, rfl⟩
    rintro m2 t hh ⟨a, b, s7, hm2, eh, ha, hb, hno, rfl⟩
    have eh := eh.symm
    subst eh
    have hkp : (0 : Int) < k := by omega
    have ex' : ¬ (k ∣ a.natAbs ∧ k ∣ b.natAbs) → k + 1 ≤ 13 ∨ b < k → True := fun _ _ => trivial
    by_cases h1' : a.tmod k = 0
    · by_cases h2' : b.tmod k = 0
      · repeat first|(refine BG ?_;first|(refine BH ?_;first|(refine BI ?_;refine BM ?_)|(refine BJ ?_;first|refine BN ?_|refine BO ?_)|refine BV (v_rem rfl rfl (by omega)) ?_|refine BP ?_)|(refine BK ?_;first|refine BS rfl rfl ?_|refine BT rfl rfl ?_|refine BU rfl ?_)|(refine BL ?_;first|refine BQ ?_)|(refine BR ?_;try simp only [setS]))|refine AA ?_|refine AC ?_|refine AD ?_|refine AF rfl rfl ?_|refine AG rfl rfl ?_|refine AH ?_|refine AI ?_|refine AJ ?_|refine AK ?_|refine AL ?_|refine AM ?_|refine AN ?_|refine AO ?_|refine AP ?_|refine AQ rfl ?_|refine AR ?_|refine AS ?_|refine AT rfl ?_|refine AU rfl ?_
        repeat first|(refine BG ?_;first|(refine BH ?_;first|(refine BI ?_;refine BM ?_)|(refine BJ ?_;first|refine BN ?_|refine BO ?_)|refine BV (v_quoi rfl rfl hkp (by omega)) ?_|refine BP ?_)|(refine BK ?_;first|refine BS rfl rfl ?_|refine BT rfl rfl ?_|refine BU rfl ?_)|(refine BL ?_;first|refine BQ ?_)|(refine BR ?_;try simp only [setS]))|(refine BX ?_;first|refine BY rfl ?_|(refine BZ ?_;refine CA ?_)|refine CB (v_quoi rfl rfl hkp (by omega)) ?_|refine CC ?_|(refine CD ?_;try simp only [setS]))|refine AA ?_|refine AC ?_|refine AD ?_|refine AE ?_|refine AF rfl rfl ?_|refine AG rfl rfl ?_|refine AH ?_|refine AI ?_|refine AJ ?_|refine AK ?_|refine AL ?_|refine AM ?_|refine AN ?_|refine AO ?_|refine AP ?_|refine AQ rfl ?_|refine AR ?_|refine AS ?_|refine AT rfl ?_|refine AU rfl ?_
        have q1 := tdiv_le (a := a) hkp
        have q2 := tdiv_le (a := b) hkp
        have q3 := tdiv_mul hkp h2'
        have q4 : 1 ≤ b.tdiv k := by
          rcases (show b.tdiv k ≤ 0 ∨ 1 ≤ b.tdiv k by omega) with q | q
          · have : b.tdiv k * k ≤ 0 := Int.mul_nonpos_of_nonpos_of_nonneg q (by omega)
            omega
          · exact q
        have q5 : b.tdiv k < b := by
          have : b.tdiv k * 2 ≤ b.tdiv k * k := Int.mul_le_mul_of_nonneg_left (by omega) (by omega)
          omega
        refine round_norm (b.tdiv k).natAbs (by omega) ⟨a.tdiv k, b.tdiv k, _, rfl, rfl, by omega, by omega, fun j hj1 hj2 hj3 => hno j hj1 hj2 ⟨dvd_of_div hkp h1' hj3.1, dvd_of_div hkp h2' hj3.2⟩, rfl⟩
      · repeat first|(refine BG ?_;first|(refine BH ?_;first|(refine BI ?_;refine BM ?_)|(refine BJ ?_;first|refine BN ?_|refine BO ?_)|refine BV (v_rem rfl rfl (by omega)) ?_|refine BP ?_)|(refine BK ?_;first|refine BS rfl rfl ?_|refine BT rfl rfl ?_|refine BU rfl ?_)|(refine BL ?_;first|refine BQ ?_)|(refine BR ?_;try simp only [setS]))|refine AA ?_|refine AC ?_|refine AD ?_|refine AE ?_|refine AF rfl rfl ?_|refine AG rfl rfl ?_|refine AH ?_|refine AI ?_|refine AJ ?_|refine AK ?_|refine AL ?_|refine AM ?_|refine AN ?_|refine AO ?_|refine AP ?_|refine AQ rfl ?_|refine AR ?_|refine AS ?_|refine AT rfl ?_|refine AU rfl ?_
        rw [show ((k : Int) + 1) = ((k + 1 : Nat) : Int) by omega]
        refine round_norm (m - 1) (by omega) ⟨k + 1, a, b, _, _, by omega, by omega, by omega, rfl, ha, hb, fun j hj1 hj2 hj3 => ?_, rfl⟩
        by_cases hjk : j = k
        · subst hjk; exact h2' (tmod_of_dvd hj3.2)
        · exact hno j hj1 (by omega) hj3
    · repeat first|(refine BG ?_;first|(refine BH ?_;first|(refine BI ?_;refine BM ?_)|(refine BJ ?_;first|refine BN ?_|refine BO ?_)|refine BV (v_rem rfl rfl (by omega)) ?_|refine BP ?_)|(refine BK ?_;first|refine BS rfl rfl ?_|refine BT rfl rfl ?_|refine BU rfl ?_)|(refine BL ?_;first|refine BQ ?_)|(refine BR ?_;try simp only [setS]))|refine AA ?_|refine AC ?_|refine AD ?_|refine AE ?_|refine AF rfl rfl ?_|refine AG rfl rfl ?_|refine AH ?_|refine AI ?_|refine AJ ?_|refine AK ?_|refine AL ?_|refine AM ?_|refine AN ?_|refine AO ?_|refine AP ?_|refine AQ rfl ?_|refine AR ?_|refine AS ?_|refine AT rfl ?_|refine AU rfl ?_
      rw [show ((k : Int) + 1) = ((k + 1 : Nat) : Int) by omega]
      refine round_norm (m - 1) (by omega) ⟨k + 1, a, b, _, _, by omega, by omega, by omega, rfl, ha, hb, fun j hj1 hj2 hj3 => ?_, rfl⟩
      by_cases hjk : j = k
      · subst hjk; exact h1' (tmod_of_dvd hj3.1)
      · exact hno j hj1 (by omega) hj3
  · repeat first|(refine BG ?_;first|(refine BH ?_;first|(refine BI ?_;refine BM ?_)|(refine BJ ?_;first|refine BN ?_|refine BO ?_)|refine BP ?_)|(refine BK ?_;first|refine BS rfl rfl ?_|refine BT rfl rfl ?_|refine BU rfl ?_)|(refine BL ?_;first|refine BW (ef_bxn bx rfl rfl rfl rfl (Nat.le_refl _)) ?_|refine BQ ?_)|(refine BR ?_;try simp only [setS]))|refine AA ?_|refine AC ?_|refine AD ?_|refine AE ?_|refine AF rfl rfl ?_|refine AG rfl rfl ?_|refine AH ?_|refine AI ?_|refine AJ ?_|refine AK ?_|refine AL ?_|refine AM ?_|refine AN ?_|refine AO ?_|refine AP ?_|refine AQ rfl ?_|refine AR ?_|refine AS ?_|refine AT rfl ?_|refine AU rfl ?_
    have hg : gq a b = 1 := by
      have g1 : gq a b ∣ a.natAbs := Nat.gcd_dvd_left ..
      have g2 : gq a b ∣ b.natAbs := Nat.gcd_dvd_right ..
      have g3 : 0 < gq a b := Nat.gcd_pos_of_pos_right _ (by omega)
      have g4 := Nat.le_of_dvd (by omega) g2
      rcases (show gq a b = 1 ∨ 2 ≤ gq a b by omega) with q | q
      · exact q
      · exact absurd ⟨g1, g2⟩ (hno _ q (by omega))
    refine fin_q1 (q := (a, b)) bx.put rfl ⟨kp.own (Keep.put _ _ _ (S := OneB h.n) rfl) (fun k q => Nat.le_of_eq q.symm), (a, b), rfl, ⟨ha.1, ha.2, hb.1, hb.2, hg⟩⟩
structure Ints (h : Hp X) (v : AV) (l : List Int) : Prop where
  rs : RS h 1 v l.length (l.map iv)
  len : l.length ≤ maxLen
  row : ∀ x ∈ l, I64 x
theorem Ints.up {h h' : Hp X} {v : AV} {l : List Int} (a : Ints h v l) (k : Keep NoB h h') : Ints h' v l := ⟨a.rs.up k, a.len, a.row⟩
def tmsG (t : Int) : List Int → List Int
  | [] => []
  | s :: r => t :: tmsG (t + withinF s 1 40) r
theorem tmsG_len : ∀ (l : List Int) (t : Int), (tmsG t l).length = l.length
  | [], _ => rfl
  | s :: r, t => by show (tmsG _ r).length + 1 = _; rw [tmsG_len r]; rfl
set_option maxHeartbeats 1000000 in
theorem samples_ok (hE : ∀ f e, E f = some e → e.plain) (T : QsT E) {h : Hp X} {v w : AV} {st vs : List Int} (a : Ints h v st) (b : Ints h w vs) {most : Nat} (hm : most ≤ 1000) :
    WF (lim E) 11 [v, w, .int .i64 most] h fun x h' => Keep NoB h h' ∧ ∃ l : List SM, RS h' 3 x l.length (l.flatMap sc) ∧ (∀ k, blk x k → h.n ≤ k) ∧ l.map SM.t = tmsG 0 (st.take most) ∧ ∀ s ∈ l, SmallQ s.q := by
  have hmx : (maxLen : Nat) = 9223372036854775807 := rfl
  have hal := a.len
  have hbl := b.len
  refine wf_bc hE T.samples rfl ?_
  simp only [b_keepSamples, List.map, getS]
  repeat first|(refine BG ?_;first|(refine BH ?_;first|(refine BI ?_;refine BM ?_)|(refine BJ ?_;first|refine BN ?_|refine BO ?_)|refine BP ?_)|(refine BK ?_;first|refine BS rfl rfl ?_|refine BT rfl rfl ?_|refine BU rfl ?_)|(refine BL ?_;first|refine BQ ?_)|(refine BR ?_;try simp only [setS]))|refine AA ?_|refine AC ?_|refine AD ?_|refine AE ?_|refine AF rfl rfl ?_|refine AG rfl rfl ?_|refine AH ?_|refine AI ?_|refine AJ ?_|refine AK ?_|refine AL ?_|refine AM ?_|refine AN ?_|refine AO ?_|refine AP ?_|refine AQ rfl ?_|refine AR ?_|refine AS ?_|refine AT rfl ?_|refine AU rfl ?_
  refine wb_loop (fun n t hh => ∃ (i : Nat) (out : List SM) (T0 : Int) (vo s7 s8 s9 : AV), i ≤ most ∧ i ≤ st.length ∧ n = most - i ∧ Keep NoB h hh ∧ out.length = i ∧ OS hh 3 vo out.length (out.flatMap sc) ∧ (∀ k, blk vo k → h.n ≤ k) ∧ tmsG 0 (st.take most) = out.map SM.t ++ tmsG T0 ((st.take most).drop i) ∧ (0 ≤ T0 ∧ T0 ≤ 40 * i) ∧ (∀ s ∈ out, SmallQ s.q) ∧ t = [v, w, .int .i64 most, .snil, vo, .int .i64 T0, .int .i64 i, s7, s8, s9]) ?_ most _ _ ⟨0, [], 0, .snil, _, _, _, by omega, by omega, by omega, Keep.refl _ _, rfl, ⟨rfl, rfl⟩, fun k q => q.elim, rfl, by omega, (fun s hs => by cases hs), rfl⟩
  rintro n t hh ⟨i, out, T0, vo, s7, s8, s9, hi1, hi2, hn, K, hol, ho, hlo, htm, hT, hsm, rfl⟩
  have a1 := a.up K
  have b1 := b.up K
  by_cases hlt : i < st.length ∧ i < most
  · obtain ⟨h1', h2'⟩ := hlt
    obtain ⟨s, hs⟩ : ∃ s, st[i]? = some s := ⟨_, List.getElem?_eq_getElem h1'⟩
    have hs64 := a.row s (List.mem_of_getElem? hs)
    obtain ⟨g, o, c0, c1⟩ := a1.rs.at2 h1'
    have hst : (st.take most).drop i = s :: (st.take most).drop (i + 1) := by
      rw [List.drop_eq_getElem_cons (by rw [List.length_take]; omega)]
      congr 1
      rw [List.getElem_take]
      exact (List.getElem?_eq_some_iff.1 hs).2
    have hcc : decide ((i : Int) < (st.length : Nat)) = true := decide_eq_true (by omega)
    have hcm : decide ((i : Int) < (most : Nat)) = true := decide_eq_true (by omega)
    repeat first|(refine BG ?_;first|(refine BH ?_;first|(refine BI ?_;refine BM ?_)|(refine BJ ?_;first|refine BN ?_|refine BO ?_)|refine BV (a1.rs.lenv (by rfl)) ?_|refine BV (b1.rs.lenv (by rfl)) ?_|refine BV (v_cmp rfl rfl rfl) ?_|refine BP ?_)|(refine BK ?_;first|refine BS rfl rfl ?_|refine BT rfl rfl ?_|refine BU rfl ?_)|(refine BL ?_;first|refine BQ ?_)|(refine BR ?_;try simp only [setS]))|refine AA ?_|refine AC ?_|refine AD ?_|refine AE ?_|refine AF rfl rfl ?_|refine AG rfl rfl ?_|refine AH ?_|refine AI ?_|refine AJ ?_|refine AK ?_|refine AL ?_|refine AM ?_|refine AN ?_|refine AO ?_|refine AP ?_|refine AQ rfl ?_|refine AR ?_|refine AS ?_|refine AT rfl ?_|refine AU rfl ?_
    refine wb_mid (fun t' h' => h' = hh ∧ ∃ (u : Int) (s9 : AV), I64 u ∧ t' = [v, w, .int .i64 most, .snil, vo, .int .i64 T0, .int .i64 i, .int .i64 u, .bool true, s9]) ?_ ?_
    · by_cases hv : i < vs.length
      · obtain ⟨u, hu⟩ : ∃ u, vs[i]? = some u := ⟨_, List.getElem?_eq_getElem hv⟩
        obtain ⟨g', o', d0, d1⟩ := b1.rs.at2 hv
        have ld : ∀ {e : En} {t : List AV} {x : Od}, x.ev e t = .ptr g' o' → (Mv.ld1 x).ev e t hh = some (.int .i64 u) := fun hx => by rw [d1 (Keep.refl NoB hh) (fun _ _ q => q) hx, iv_at hu]
        rw [decide_eq_true (show (i : Int) < (vs.length : Nat) by omega)]
        repeat first|(refine BG ?_;first|(refine BH ?_;first|(refine BI ?_;refine BM ?_)|(refine BJ ?_;first|refine BN ?_|refine BO ?_)|refine BV (d0 rfl rfl) ?_|refine BV (ld rfl) ?_|refine BP ?_)|(refine BK ?_;first|refine BS rfl rfl ?_|refine BT rfl rfl ?_|refine BU rfl ?_)|(refine BL ?_;first|refine BQ ?_)|(refine BR ?_;try simp only [setS]))|refine AA ?_|refine AC ?_|refine AD ?_|refine AE ?_|refine AF rfl rfl ?_|refine AG rfl rfl ?_|refine AH ?_|refine AI ?_|refine AJ ?_|refine AK ?_|refine AL ?_|refine AM ?_|refine AN ?_|refine AO ?_|refine AP ?_|refine AQ rfl ?_|refine AR ?_|refine AS ?_|refine AT rfl ?_|refine AU rfl ?_
        exact mid_norm ⟨rfl, u, _, b.row u (List.mem_of_getElem? hu), rfl⟩
      · rw [decide_eq_false (show ¬ (i : Int) < (vs.length : Nat) by omega)]
        repeat first|(refine BG ?_;first|(refine BH ?_;first|(refine BI ?_;refine BM ?_)|(refine BJ ?_;first|refine BN ?_|refine BO ?_)|refine BP ?_)|(refine BK ?_;first|refine BS rfl rfl ?_|refine BT rfl rfl ?_|refine BU rfl ?_)|(refine BL ?_;first|refine BQ ?_)|(refine BR ?_;try simp only [setS]))|refine AA ?_|refine AC ?_|refine AD ?_|refine AE ?_|refine AF rfl rfl ?_|refine AG rfl rfl ?_|refine AH ?_|refine AI ?_|refine AJ ?_|refine AK ?_|refine AL ?_|refine AM ?_|refine AN ?_|refine AO ?_|refine AP ?_|refine AQ rfl ?_|refine AR ?_|refine AS ?_|refine AT rfl ?_|refine AU rfl ?_
        exact mid_norm ⟨rfl, 0, _, ⟨by decide, by decide⟩, rfl⟩
    rintro t' h' ⟨eh, u, s9, hu64, rfl⟩
    have eh := eh.symm
    subst eh
    have tb := tmod_bounds (n := wr .i64 (u.tmod 5 * u)) (m := 5) (by omega)
    repeat first|(refine BG ?_;first|(refine BH ?_;first|(refine BI ?_;refine BM ?_)|(refine BJ ?_;first|refine BN ?_|refine BO ?_)|refine BV (v_rem rfl rfl (by omega)) ?_|refine BV (v_mulw rfl rfl) ?_|refine BV (v_add rfl rfl (by omega)) ?_|refine BP ?_)|(refine BK ?_;first|refine BS rfl rfl ?_|refine BT rfl rfl ?_|refine BU rfl ?_)|(refine BL ?_;first|refine BQ ?_)|(refine BR ?_;try simp only [setS]))|refine AA ?_|refine AC ?_|refine AD ?_|refine AE ?_|refine AF rfl rfl ?_|refine AG rfl rfl ?_|refine AH ?_|refine AI ?_|refine AJ ?_|refine AK ?_|refine AL ?_|refine AM ?_|refine AN ?_|refine AO ?_|refine AP ?_|refine AQ rfl ?_|refine AR ?_|refine AS ?_|refine AT rfl ?_|refine AU rfl ?_
    refine wr_call_e rfl ((krat_ok hE T hu64 (d := 1 + (wr .i64 (u.tmod 5 * u)).tmod 5) ⟨by omega, by omega⟩).mono fun x h4 ⟨k4, q, e4, hq⟩ => ?_)
    subst e4
    repeat first|(refine BG ?_;first|(refine BH ?_;first|(refine BI ?_;refine BM ?_)|(refine BJ ?_;first|refine BN ?_|refine BO ?_)|refine BP ?_)|(refine BK ?_;first|refine BS rfl rfl ?_|refine BT rfl rfl ?_|refine BU rfl ?_)|(refine BL ?_;first|refine BW (ef_bss (s := ⟨T0, q⟩) rfl) ?_|refine BQ ?_)|(refine BR ?_;try simp only [setS]))|refine AA ?_|refine AC ?_|refine AD ?_|refine AE ?_|refine AF rfl rfl ?_|refine AG rfl rfl ?_|refine AH ?_|refine AI ?_|refine AJ ?_|refine AK ?_|refine AL ?_|refine AM ?_|refine AN ?_|refine AO ?_|refine AP ?_|refine AQ rfl ?_|refine AR ?_|refine AS ?_|refine AT rfl ?_|refine AU rfl ?_
    have K4 := K.and k4
    have n4 := K4.n
    have kq : Keep NoB h4 (h4.push (.rw (sc ⟨T0, q⟩))) := Keep.push _ _ _
    refine wr_app_e rfl rfl ((ho.up k4).up kq) (by decide) (rs_push (n := 1) (z := 3) rfl) (by omega) (by omega) fun v' h' a1' a2' a3' => ?_
    have K7 := (K4.and kq).own a2' hlo
    have lo7 : ∀ k, blk v' k → h.n ≤ k := fun k q => by
      rcases a3' k q with q | q
      · exact hlo k q
      · simp only [push_n] at q; omega
    have a7 := a.up K7
    obtain ⟨g2, o2, c2, c3⟩ := a7.rs.at2 h1'
    have lc : ∀ {e : En} {t : List AV} {x : Od}, x.ev e t = .ptr g2 o2 → (Mv.ld1 x).ev e t h' = some (.int .i64 s) := fun hx => by rw [c3 (Keep.refl NoB h') (fun _ _ q => q) hx, iv_at hs]
    repeat first|(refine BG ?_;first|(refine BH ?_;first|(refine BI ?_;refine BM ?_)|(refine BJ ?_;first|refine BN ?_|refine BO ?_)|refine BV (c2 rfl rfl) ?_|refine BV (lc rfl) ?_|refine BP ?_)|(refine BK ?_;first|refine BS rfl rfl ?_|refine BT rfl rfl ?_|refine BU rfl ?_)|(refine BL ?_;first|refine BQ ?_)|(refine BR ?_;try simp only [setS]))|refine AA ?_|refine AC ?_|refine AD ?_|refine AE ?_|refine AF rfl rfl ?_|refine AG rfl rfl ?_|refine AH ?_|refine AI ?_|refine AJ ?_|refine AK ?_|refine AL ?_|refine AM ?_|refine AN ?_|refine AO ?_|refine AP ?_|refine AQ rfl ?_|refine AR ?_|refine AS ?_|refine AT rfl ?_|refine AU rfl ?_
    refine wr_call_e rfl ((within_ok hE T.within hs64 (lo := 1) (hi := 40) (by omega) (by omega) (by omega)).mono fun z h8 ⟨e8, e9⟩ => ?_)
    subst e9
    have e8 := e8.symm
    subst e8
    have hw := withinF_in (n := s) (lo := 1) (hi := 40) (by omega)
    repeat first|(refine BG ?_;first|(refine BH ?_;first|(refine BI ?_;refine BM ?_)|(refine BJ ?_;first|refine BN ?_|refine BO ?_)|refine BV (v_add rfl rfl (by omega)) ?_|refine BP ?_)|(refine BK ?_;first|refine BS rfl rfl ?_|refine BT rfl rfl ?_|refine BU rfl ?_)|(refine BL ?_;first|refine BQ ?_)|(refine BR ?_;try simp only [setS]))|refine AA ?_|refine AC ?_|refine AD ?_|refine AE ?_|refine AF rfl rfl ?_|refine AG rfl rfl ?_|refine AH ?_|refine AI ?_|refine AJ ?_|refine AK ?_|refine AL ?_|refine AM ?_|refine AN ?_|refine AO ?_|refine AP ?_|refine AQ rfl ?_|refine AR ?_|refine AS ?_|refine AT rfl ?_|refine AU rfl ?_
    rw [show ((i : Int) + 1) = ((i + 1 : Nat) : Int) by omega]
    refine round_norm (n - 1) (by omega) ⟨i + 1, out ++ [⟨T0, q⟩], T0 + withinF s 1 40, v', _, _, _, by omega, by omega, by omega, K7, by rw [List.length_append]; simp; omega, ?_, lo7, ?_, by omega, fun s' hs' => ?_, rfl⟩
    · rw [List.length_append, List.flatMap_append]
      simpa using a1'
    · rw [htm, hst, List.map_append]
      simp [tmsG]
    · rcases List.mem_append.1 hs' with hs' | hs'
      · exact hsm s' hs'
      · simp at hs'; subst hs'; exact hq
  · have hfin : (st.take most).drop i = [] := List.drop_eq_nil_of_le (by rw [List.length_take]; omega)
    rw [hfin, show tmsG T0 [] = [] from rfl, List.append_nil] at htm
    by_cases h1' : i < st.length
    · have h2' : ¬ i < most := fun q => hlt ⟨h1', q⟩
      repeat first|(refine BG ?_;first|(refine BH ?_;first|(refine BI ?_;refine BM ?_)|(refine BJ ?_;first|refine BN ?_|refine BO ?_)|refine BV (a1.rs.lenv (by rfl)) ?_|refine BP ?_)|(refine BK ?_;first|refine BS rfl rfl ?_|refine BT rfl rfl ?_|refine BU rfl ?_)|(refine BL ?_;first|refine BQ ?_)|(refine BR ?_;try simp only [setS]))|refine AA ?_|refine AC ?_|refine AD ?_|refine AE ?_|refine AF rfl rfl ?_|refine AG rfl rfl ?_|refine AH ?_|refine AI ?_|refine AJ ?_|refine AK ?_|refine AL ?_|refine AM ?_|refine AN ?_|refine AO ?_|refine AP ?_|refine AQ rfl ?_|refine AR ?_|refine AS ?_|refine AT rfl ?_|refine AU rfl ?_
      exact ⟨K, out, ho.rs, hlo, htm.symm, hsm⟩
    · repeat first|(refine BG ?_;first|(refine BH ?_;first|(refine BI ?_;refine BM ?_)|(refine BJ ?_;first|refine BN ?_|refine BO ?_)|refine BV (a1.rs.lenv (by rfl)) ?_|refine BP ?_)|(refine BK ?_;first|refine BS rfl rfl ?_|refine BT rfl rfl ?_|refine BU rfl ?_)|(refine BL ?_;first|refine BQ ?_)|(refine BR ?_;try simp only [setS]))|refine AA ?_|refine AC ?_|refine AD ?_|refine AE ?_|refine AF rfl rfl ?_|refine AG rfl rfl ?_|refine AH ?_|refine AI ?_|refine AJ ?_|refine AK ?_|refine AL ?_|refine AM ?_|refine AN ?_|refine AO ?_|refine AP ?_|refine AQ rfl ?_|refine AR ?_|refine AS ?_|refine AT rfl ?_|refine AU rfl ?_
      exact ⟨K, out, ho.rs, hlo, htm.symm, hsm⟩
end
end Am
end Go.Proofs.Ytkgplkddpigagaa
