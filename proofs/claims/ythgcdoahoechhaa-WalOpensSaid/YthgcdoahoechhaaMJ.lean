/- Chapter 10: both ways to read a list tell the same. No program. Package manifest: Write, Read told. Numbers brought within bounds; layer 10's lists as they are made. Numbers as texts: manifest's and chapter 1's digits are the same. Chapter 4's own Put, All; layer 10's helpers. Layer 10's helpers: a fresh disk, a disk with a file; encodes, decodes. Layer 10: what its laws share. -/
import Derived.Test.YthgcdoahoechhaaMI
import Derived.Test.YthgcdoahoechhaaAm36
set_option linter.unusedVariables false
set_option linter.unusedSimpArgs false
namespace Go.Proofs.Ythgcdoahoechhaa
namespace Am
open Go.RowKit
set_option maxRecDepth 100000
end Am
end Go.Proofs.Ythgcdoahoechhaa
namespace Go.Proofs.Ythgcdoahoechhaa
namespace Am
open Go.RowKit
set_option maxRecDepth 100000
theorem fl_create (m : MD) (s : Bs) : (m.create s).2.fs.length ≤ m.fs.length + 1 := by
  unfold MD.create
  split
  · exact Nat.le_succ _
  · split
    · rw [MD.count_fs]; exact Nat.le_succ _
    · refine Nat.le_trans (MD.length_put _ _) ?_
      rw [MD.count_fs]; exact Nat.le_refl _
def recB (b : List UInt8) : List UInt8 := encB b.length 3 ++ encB (b.length ^^^ 16777215) 3 ++ b
theorem recB_len (b : List UInt8) : (recB b).length = 6 + b.length := by simp [recB, encB_len]; omega
theorem allG_le : ∀ (k : Nat) (bs : List UInt8), ∀ r ∈ (allG k bs).1, r.length ≤ bs.length
  | 0, bs, r, h => by simp [allG] at h
  | k + 1, bs, r, h => by
    rw [allG] at h
    split at h
    · simp at h
    · split at h
      · simp at h
      · rcases List.mem_cons.1 h with rfl | h
        · rw [List.length_take, List.length_drop]; omega
        · have := allG_le k _ r h
          rw [List.length_drop] at this
          omega
end Am
end Go.Proofs.Ythgcdoahoechhaa
namespace Go.Proofs.Ythgcdoahoechhaa
namespace Am
open Go.RowKit
set_option maxRecDepth 100000
def b_Within : BF := ⟨33, [0, 1, 2, 6, 14, 23], (.seq (.reg [.mk none (.slot 3) (.mov (.mv (.const (.int .i64 0))))]) (.seq (.seq (.reg [.mk none (.env 7) (.mov (.mv (.slot 0))), .mk none (.env 8) (.mov (.mv (.slot 1))), .mk none (.env 9) (.mov (.bin .geq .no (.env 7) (.env 8))), .mk none (.env 10) (.mov (.mv (.env 9))), .mk (some ((.env 10), true)) (.env 11) (.mov (.mv (.slot 0))), .mk (some ((.env 10), true)) (.env 12) (.mov (.mv (.slot 2))), .mk (some ((.env 10), true)) (.env 13) (.mov (.bin .leq .no (.env 11) (.env 12))), .mk none (.slot 4) (.mov (.pick (.env 10) (.env 13) (.const (.bool false))))]) (.cond (.slot 4) (.seq (.reg [.mk none (.env 15) (.mov (.mv (.slot 0))), .mk none (.slot 3) (.mov (.mv (.env 15)))]) .ret) .skip)) (.seq (.reg [.mk none (.env 16) (.mov (.mv (.slot 0))), .mk none (.env 17) (.mov (.mv (.slot 2))), .mk none (.env 18) (.mov (.mv (.slot 1))), .mk none (.env 19) (.mov (.bin .sub .no (.env 17) (.env 18))), .mk none (.env 20) (.mov (.bin .add .no (.env 19) (.const (.int .i64 1)))), .mk none (.env 21) (.mov (.bin .rem .no (.env 16) (.env 20))), .mk none (.slot 0) (.mov (.mv (.env 21)))]) (.seq (.seq (.reg [.mk none (.env 22) (.mov (.mv (.slot 0))), .mk none (.slot 5) (.mov (.bin .lss .no (.env 22) (.const (.int .i64 0))))]) (.cond (.slot 5) (.reg [.mk none (.env 24) (.mov (.mv (.slot 0))), .mk none (.env 25) (.mov (.mv (.slot 2))), .mk none (.env 26) (.mov (.bin .add .no (.env 24) (.env 25))), .mk none (.env 27) (.mov (.mv (.slot 1))), .mk none (.env 28) (.mov (.bin .sub .no (.env 26) (.env 27))), .mk none (.env 29) (.mov (.bin .add .no (.env 28) (.const (.int .i64 1)))), .mk none (.slot 0) (.mov (.mv (.env 29)))]) .skip)) (.seq (.reg [.mk none (.env 30) (.mov (.mv (.slot 1))), .mk none (.env 31) (.mov (.mv (.slot 0))), .mk none (.env 32) (.mov (.bin .add .no (.env 30) (.env 31))), .mk none (.slot 3) (.mov (.mv (.env 32)))]) .ret))))), [.slot (.slot 3)]⟩
def b_keepCut : BF := ⟨13, [0, 1, 4, 8], (.seq (.reg [.mk none (.slot 2) (.mov (.mv (.const .snil)))]) (.seq (.seq (.reg [.mk none (.env 5) (.mov (.mv (.slot 0))), .mk none (.env 6) (.mov (.lenv (.env 5))), .mk none (.env 7) (.mov (.mv (.slot 1))), .mk none (.slot 3) (.mov (.bin .gtr .no (.env 6) (.env 7)))]) (.cond (.slot 3) (.seq (.reg [.mk none (.env 9) (.mov (.mv (.slot 0))), .mk none (.env 10) (.mov (.mv (.slot 1))), .mk none (.env 11) (.mov (.sl 1 (.env 9) none (some (.env 10)) none)), .mk none (.slot 2) (.mov (.mv (.env 11)))]) .ret) .skip)) (.seq (.reg [.mk none (.env 12) (.mov (.mv (.slot 0))), .mk none (.slot 2) (.mov (.mv (.env 12)))]) .ret))), [.slot (.slot 2)]⟩
def withinF (n lo hi : Int) : Int := if lo ≤ n ∧ n ≤ hi then n else lo + (if n.tmod (hi - lo + 1) < 0 then n.tmod (hi - lo + 1) + hi - lo + 1 else n.tmod (hi - lo + 1))
theorem tmod_bounds {n m : Int} (hm : 0 < m) : -m < n.tmod m ∧ n.tmod m < m := by
  have h1 := Int.tmod_lt_of_pos n hm
  have h2 : -m < n.tmod m := by
    have := Int.tmod_lt_of_pos (-n) hm
    rw [Int.neg_tmod] at this
    omega
  exact ⟨h2, h1⟩
theorem withinF_in {n lo hi : Int} (h : lo ≤ hi) : lo ≤ withinF n lo hi ∧ withinF n lo hi ≤ hi := by
  unfold withinF
  split
  · assumption
  · have := tmod_bounds (n := n) (m := hi - lo + 1) (by omega)
    split <;> omega
section
variable {e : En} {t : List AV} {X : Type} {h : Hp X}
theorem v_rem {q : Eq} {x y : Od} {k : IntKind} {a b : Int} (hx : x.ev e t = .int k a) (hy : y.ev e t = .int k b) (hb : b ≠ 0) : (Mv.bin .rem q x y).ev e t h = some (.int k (a.tmod b)) := by
  simp [Mv.ev, hx, hy, Am.bin, AV.onInt, intOp, isShift, hb]
theorem v_addu {q : Eq} {x y : Od} {a b : Nat} (hx : x.ev e t = .int .u64 (a : Int)) (hy : y.ev e t = .int .u64 (b : Int)) (hc : a + b < 18446744073709551616) : (Mv.bin .add q x y).ev e t h = some (.int .u64 ((a + b : Nat) : Int)) := by
  have e4 : wr .u64 ((a : Int) + (b : Int)) = ((a + b : Nat) : Int) := by
    have e3 : ((a : Int) + (b : Int)) % 2 ^ 64 = ((a + b : Nat) : Int) := by omega
    simp only [wr, IntKind.wrap, IntKind.signed, IntKind.bits, e3]
    simp
  simp [Mv.ev, hx, hy, Am.bin, AV.onInt, intOp, isShift, e4]
theorem v_subu {q : Eq} {x y : Od} {a b : Nat} (hx : x.ev e t = .int .u64 (a : Int)) (hy : y.ev e t = .int .u64 (b : Int)) (hc : b ≤ a) (ha : a < 18446744073709551616) : (Mv.bin .sub q x y).ev e t h = some (.int .u64 ((a - b : Nat) : Int)) := by
  have e4 : wr .u64 ((a : Int) - (b : Int)) = ((a - b : Nat) : Int) := by
    have e3 : ((a : Int) - (b : Int)) % 2 ^ 64 = ((a - b : Nat) : Int) := by omega
    simp only [wr, IntKind.wrap, IntKind.signed, IntKind.bits, e3]
    simp
  simp [Mv.ev, hx, hy, Am.bin, AV.onInt, intOp, isShift, e4]
end
section
variable {X : Type} {E : Nat → Option (Ent X)}
theorem within_ok (hE : ∀ f e, E f = some e → e.plain) (hf : E 12 = some (.bc b_Within)) {h : Hp X} {n lo hi : Int} (hn : I64 n) (h1 : -1000000000 ≤ lo) (h2 : lo ≤ hi) (h3 : hi ≤ 1000000000) :
    WF (lim E) 12 [.int .i64 n, .int .i64 lo, .int .i64 hi] h fun r h' => h' = h ∧ r = .int .i64 (withinF n lo hi) := by
  refine wf_bc hE hf rfl ?_
  simp only [b_Within, List.map, getS]
  obtain ⟨n1, n2⟩ := hn
  unfold withinF
  by_cases c1 : lo ≤ n
  · by_cases c2 : n ≤ hi
    · rw [if_pos ⟨c1, c2⟩]
      repeat first|(refine BG ?_;first|(refine BH ?_;first|(refine BI ?_;refine BM ?_)|(refine BJ ?_;first|refine BN ?_|refine BO ?_)|refine BP ?_)|(refine BK ?_;first|refine BS rfl rfl ?_|refine BT rfl rfl ?_|refine BU rfl ?_)|(refine BL ?_;first|refine BQ ?_)|(refine BR ?_;try simp only [setS]))|refine AA ?_|refine AC ?_|refine AD ?_|refine AE ?_|refine AF rfl rfl ?_|refine AG rfl rfl ?_|refine AH ?_|refine AI ?_|refine AJ ?_|refine AK ?_|refine AL ?_|refine AM ?_|refine AN ?_|refine AO ?_|refine AP ?_|refine AQ rfl ?_|refine AR ?_|refine AS ?_|refine AT rfl ?_|refine AU rfl ?_
      exact ⟨rfl, rfl⟩
    · rw [if_neg (fun q => c2 q.2)]
      have := tmod_bounds (n := n) (m := hi - lo + 1) (by omega)
      by_cases c3 : n.tmod (hi - lo + 1) < 0
      · rw [if_pos c3]
        repeat first|(refine BG ?_;first|(refine BH ?_;first|(refine BI ?_;refine BM ?_)|(refine BJ ?_;first|refine BN ?_|refine BO ?_)|refine BV (v_rem rfl rfl (by omega)) ?_|refine BP ?_)|(refine BK ?_;first|refine BS rfl rfl ?_|refine BT rfl rfl ?_|refine BU rfl ?_)|(refine BL ?_;first|refine BQ ?_)|(refine BR ?_;try simp only [setS]))|refine AA ?_|refine AC ?_|refine AD ?_|refine AE ?_|refine AF rfl rfl ?_|refine AG rfl rfl ?_|refine AH ?_|refine AI ?_|refine AJ ?_|refine AK ?_|refine AL ?_|refine AM ?_|refine AN ?_|refine AO ?_|refine AP ?_|refine AQ rfl ?_|refine AR ?_|refine AS ?_|refine AT rfl ?_|refine AU rfl ?_
        exact ⟨rfl, rfl⟩
      · rw [if_neg c3]
        repeat first|(refine BG ?_;first|(refine BH ?_;first|(refine BI ?_;refine BM ?_)|(refine BJ ?_;first|refine BN ?_|refine BO ?_)|refine BV (v_rem rfl rfl (by omega)) ?_|refine BP ?_)|(refine BK ?_;first|refine BS rfl rfl ?_|refine BT rfl rfl ?_|refine BU rfl ?_)|(refine BL ?_;first|refine BQ ?_)|(refine BR ?_;try simp only [setS]))|refine AA ?_|refine AC ?_|refine AD ?_|refine AE ?_|refine AF rfl rfl ?_|refine AG rfl rfl ?_|refine AH ?_|refine AI ?_|refine AJ ?_|refine AK ?_|refine AL ?_|refine AM ?_|refine AN ?_|refine AO ?_|refine AP ?_|refine AQ rfl ?_|refine AR ?_|refine AS ?_|refine AT rfl ?_|refine AU rfl ?_
        exact ⟨rfl, rfl⟩
  · rw [if_neg (fun q => c1 q.1)]
    have := tmod_bounds (n := n) (m := hi - lo + 1) (by omega)
    by_cases c3 : n.tmod (hi - lo + 1) < 0
    · rw [if_pos c3]
      repeat first|(refine BG ?_;first|(refine BH ?_;first|(refine BI ?_;refine BM ?_)|(refine BJ ?_;first|refine BN ?_|refine BO ?_)|refine BV (v_rem rfl rfl (by omega)) ?_|refine BP ?_)|(refine BK ?_;first|refine BS rfl rfl ?_|refine BT rfl rfl ?_|refine BU rfl ?_)|(refine BL ?_;first|refine BQ ?_)|(refine BR ?_;try simp only [setS]))|refine AA ?_|refine AC ?_|refine AD ?_|refine AE ?_|refine AF rfl rfl ?_|refine AG rfl rfl ?_|refine AH ?_|refine AI ?_|refine AJ ?_|refine AK ?_|refine AL ?_|refine AM ?_|refine AN ?_|refine AO ?_|refine AP ?_|refine AQ rfl ?_|refine AR ?_|refine AS ?_|refine AT rfl ?_|refine AU rfl ?_
      exact ⟨rfl, rfl⟩
    · rw [if_neg c3]
      repeat first|(refine BG ?_;first|(refine BH ?_;first|(refine BI ?_;refine BM ?_)|(refine BJ ?_;first|refine BN ?_|refine BO ?_)|refine BV (v_rem rfl rfl (by omega)) ?_|refine BP ?_)|(refine BK ?_;first|refine BS rfl rfl ?_|refine BT rfl rfl ?_|refine BU rfl ?_)|(refine BL ?_;first|refine BQ ?_)|(refine BR ?_;try simp only [setS]))|refine AA ?_|refine AC ?_|refine AD ?_|refine AE ?_|refine AF rfl rfl ?_|refine AG rfl rfl ?_|refine AH ?_|refine AI ?_|refine AJ ?_|refine AK ?_|refine AL ?_|refine AM ?_|refine AN ?_|refine AO ?_|refine AP ?_|refine AQ rfl ?_|refine AR ?_|refine AS ?_|refine AT rfl ?_|refine AU rfl ?_
      exact ⟨rfl, rfl⟩
theorem cut_ok (hE : ∀ f e, E f = some e → e.plain) (hf : E 27 = some (.bc b_keepCut)) {h : Hp X} {v : AV} {bs : List UInt8} (hr : RS h 1 v bs.length (bs.map ub)) {n : Nat} (hn : n ≤ 1000000) :
    WF (lim E) 27 [v, .int .i64 n] h fun r h' => h' = h ∧ RS h 1 r (bs.take n).length ((bs.take n).map ub) ∧ (∀ k, blk r k → blk v k) ∧ (v ≠ .semp → r ≠ .semp) := by
  refine wf_bc hE hf rfl ?_
  simp only [b_keepCut, List.map, getS]
  by_cases hc : (n : Int) < bs.length
  · obtain ⟨v2, q1, q2, q3, q4⟩ := hr.bytes (lo := 0) (hi := n) (Nat.zero_le _) (by omega)
    rw [List.drop_zero, Nat.sub_zero] at q1
    repeat first|(refine BG ?_;first|(refine BH ?_;first|(refine BI ?_;refine BM ?_)|(refine BJ ?_;first|refine BN ?_|refine BO ?_)|refine BV (hr.lenv (by rfl)) ?_|refine BV (q4 (by rfl) (.inl ⟨rfl, rfl⟩) (.inr ⟨_, _, rfl, rfl⟩)) ?_|refine BP ?_)|(refine BK ?_;first|refine BS rfl rfl ?_|refine BT rfl rfl ?_|refine BU rfl ?_)|(refine BL ?_;first|refine BQ ?_)|(refine BR ?_;try simp only [setS]))|refine AA ?_|refine AC ?_|refine AD ?_|refine AE ?_|refine AF rfl rfl ?_|refine AG rfl rfl ?_|refine AH ?_|refine AI ?_|refine AJ ?_|refine AK ?_|refine AL ?_|refine AM ?_|refine AN ?_|refine AO ?_|refine AP ?_|refine AQ rfl ?_|refine AR ?_|refine AS ?_|refine AT rfl ?_|refine AU rfl ?_
    exact ⟨rfl, q1, q2, q3⟩
  · repeat first|(refine BG ?_;first|(refine BH ?_;first|(refine BI ?_;refine BM ?_)|(refine BJ ?_;first|refine BN ?_|refine BO ?_)|refine BV (hr.lenv (by rfl)) ?_|refine BP ?_)|(refine BK ?_;first|refine BS rfl rfl ?_|refine BT rfl rfl ?_|refine BU rfl ?_)|(refine BL ?_;first|refine BQ ?_)|(refine BR ?_;try simp only [setS]))|refine AA ?_|refine AC ?_|refine AD ?_|refine AE ?_|refine AF rfl rfl ?_|refine AG rfl rfl ?_|refine AH ?_|refine AI ?_|refine AJ ?_|refine AK ?_|refine AL ?_|refine AM ?_|refine AN ?_|refine AO ?_|refine AP ?_|refine AQ rfl ?_|refine AR ?_|refine AS ?_|refine AT rfl ?_|refine AU rfl ?_
    refine ⟨rfl, ?_, fun k q => q, fun q => q⟩
    rw [List.take_of_length_le (by omega)]
    exact hr
end
end Am
end Go.Proofs.Ythgcdoahoechhaa
namespace Go.Proofs.Ythgcdoahoechhaa
namespace Am
open Go.RowKit
set_option maxRecDepth 100000
end Am
end Go.Proofs.Ythgcdoahoechhaa
namespace Go.Proofs.Ythgcdoahoechhaa
namespace Am
open Go.RowKit
set_option maxRecDepth 100000
def b_ref4Put : BF := ⟨17, [0, 1, 4, 5], (.seq (.reg [.mk none (.slot 2) (.mov (.mv (.const .snil)))]) (.seq (.reg [.mk none (.env 6) (.mov (.mv (.slot 1))), .mk none (.env 7) (.mov (.lenv (.env 6))), .mk none (.env 8) (.mov (.conv .u64 (.env 7))), .mk none (.slot 3) (.mov (.mv (.env 8)))]) (.seq (.reg [.mk none (.env 9) (.mov (.mv (.slot 0))), .mk none (.env 10) (.mov (.mv (.slot 3))), .mk none (.env 11) (.call 86 [(.env 9), (.env 10), (.const (.int .i64 3))]), .mk none (.env 12) (.mov (.mv (.slot 3))), .mk none (.env 13) (.mov (.bin .sub .no (.const (.int .u64 16777215)) (.env 12))), .mk none (.env 14) (.call 86 [(.env 11), (.env 13), (.const (.int .i64 3))]), .mk none (.env 15) (.mov (.mv (.slot 1))), .mk none (.env 16) (.eff (.append 1 1 (.env 14) (.env 15))), .mk none (.slot 2) (.mov (.mv (.env 16)))]) .ret))), [.slot (.slot 2)]⟩
def b_ref4All : BF := ⟨72, [0, 2, 3, 4, 5, 6, 7, 9, 15, 40, 50], (.seq (.reg [.mk none (.slot 1) (.mov (.mv (.const .snil))), .mk none (.slot 2) (.mov (.mv (.const (.int .i64 0)))), .mk none (.slot 3) (.mov (.mv (.const (.bool false))))]) (.seq (.reg [.mk none (.slot 4) (.mov (.mv (.const .snil)))]) (.seq (.reg [.mk none (.slot 5) (.mov (.mv (.const (.int .i64 0))))]) (.block 0 (.loop (.block 1 (.seq (.seq (.reg [.mk none (.env 11) (.mov (.mv (.slot 0))), .mk none (.env 12) (.mov (.lenv (.env 11))), .mk none (.env 13) (.mov (.mv (.slot 5))), .mk none (.env 14) (.mov (.bin .sub .no (.env 12) (.env 13))), .mk none (.slot 8) (.mov (.bin .lss .no (.env 14) (.const (.int .i64 6))))]) (.cond (.slot 8) (.seq (.reg [.mk none (.env 16) (.mov (.mv (.slot 4))), .mk none (.env 17) (.mov (.mv (.slot 5))), .mk none (.slot 1) (.mov (.mv (.env 16))), .mk none (.slot 2) (.mov (.mv (.env 17))), .mk none (.slot 3) (.mov (.mv (.const (.bool true))))]) .ret) .skip)) (.seq (.reg [.mk none (.env 19) (.mov (.mv (.slot 0))), .mk none (.env 20) (.mov (.mv (.slot 5))), .mk none (.env 21) (.mov (.sl 1 (.env 19) (some (.env 20)) none none)), .mk none (.env 22) (.call 92 [(.env 21), (.const (.int .i64 3))]), .mk none (.env 18) (.mov (.mv (.env 22))), .mk none (.env 23) (.mov (.ext 0 (.env 18))), .mk none (.env 24) (.mov (.ext 1 (.env 18))), .mk none (.slot 6) (.mov (.mv (.env 23))), .mk none (.env 8) (.mov (.mv (.env 24)))]) (.seq (.reg [.mk none (.env 26) (.mov (.mv (.slot 0))), .mk none (.env 27) (.mov (.mv (.slot 5))), .mk none (.env 28) (.mov (.bin .add .no (.env 27) (.const (.int .i64 3)))), .mk none (.env 29) (.mov (.sl 1 (.env 26) (some (.env 28)) none none)), .mk none (.env 30) (.call 92 [(.env 29), (.const (.int .i64 3))]), .mk none (.env 25) (.mov (.mv (.env 30))), .mk none (.env 31) (.mov (.ext 0 (.env 25))), .mk none (.env 32) (.mov (.ext 1 (.env 25))), .mk none (.slot 7) (.mov (.mv (.env 31))), .mk none (.env 10) (.mov (.mv (.env 32)))]) (.seq (.seq (.reg [.mk none (.env 33) (.mov (.mv (.slot 6))), .mk none (.env 34) (.mov (.mv (.slot 7))), .mk none (.env 35) (.mov (.bin .add .no (.env 33) (.env 34))), .mk none (.env 36) (.mov (.bin .neq .no (.env 35) (.const (.int .u64 16777215)))), .mk none (.env 37) (.mov (.mv (.env 36))), .mk (some ((.env 37), false)) (.env 38) (.mov (.mv (.slot 6))), .mk (some ((.env 37), false)) (.env 39) (.mov (.bin .gtr .no (.env 38) (.const (.int .u64 1048576)))), .mk none (.slot 9) (.mov (.pick (.env 37) (.const (.bool true)) (.env 39)))]) (.cond (.slot 9) (.seq (.reg [.mk none (.env 41) (.mov (.mv (.slot 4))), .mk none (.env 42) (.mov (.mv (.slot 5))), .mk none (.slot 1) (.mov (.mv (.env 41))), .mk none (.slot 2) (.mov (.mv (.env 42))), .mk none (.slot 3) (.mov (.mv (.const (.bool false))))]) .ret) .skip)) (.seq (.seq (.reg [.mk none (.env 43) (.mov (.mv (.slot 0))), .mk none (.env 44) (.mov (.lenv (.env 43))), .mk none (.env 45) (.mov (.mv (.slot 5))), .mk none (.env 46) (.mov (.bin .sub .no (.env 44) (.env 45))), .mk none (.env 47) (.mov (.bin .sub .no (.env 46) (.const (.int .i64 6)))), .mk none (.env 48) (.mov (.mv (.slot 6))), .mk none (.env 49) (.mov (.conv .i64 (.env 48))), .mk none (.slot 10) (.mov (.bin .lss .no (.env 47) (.env 49)))]) (.cond (.slot 10) (.seq (.reg [.mk none (.env 51) (.mov (.mv (.slot 4))), .mk none (.env 52) (.mov (.mv (.slot 5))), .mk none (.slot 1) (.mov (.mv (.env 51))), .mk none (.slot 2) (.mov (.mv (.env 52))), .mk none (.slot 3) (.mov (.mv (.const (.bool true))))]) .ret) .skip)) (.seq (.reg [.mk none (.env 53) (.mov (.mv (.slot 4))), .mk none (.env 54) (.eff (.bslice 1 0 [(.int .u8 0)] [])), .mk none (.env 55) (.mov (.mv (.slot 0))), .mk none (.env 56) (.mov (.mv (.slot 5))), .mk none (.env 57) (.mov (.bin .add .no (.env 56) (.const (.int .i64 6)))), .mk none (.env 58) (.mov (.mv (.slot 5))), .mk none (.env 59) (.mov (.bin .add .no (.env 58) (.const (.int .i64 6)))), .mk none (.env 60) (.mov (.mv (.slot 6))), .mk none (.env 61) (.mov (.conv .i64 (.env 60))), .mk none (.env 62) (.mov (.bin .add .no (.env 59) (.env 61))), .mk none (.env 63) (.mov (.sl 1 (.env 55) (some (.env 57)) (some (.env 62)) none)), .mk none (.env 64) (.eff (.append 1 1 (.env 54) (.env 63))), .mk none (.env 65) (.eff (.bslice 1 1 [.snil] [(0, 1, (.env 64))])), .mk none (.env 66) (.eff (.append 1 24 (.env 53) (.env 65))), .mk none (.slot 4) (.mov (.mv (.env 66)))]) (.reg [.mk none (.env 67) (.mov (.mv (.slot 5))), .mk none (.env 68) (.mov (.bin .add .no (.env 67) (.const (.int .i64 6)))), .mk none (.env 69) (.mov (.mv (.slot 6))), .mk none (.env 70) (.mov (.conv .i64 (.env 69))), .mk none (.env 71) (.mov (.bin .add .no (.env 68) (.env 70))), .mk none (.slot 5) (.mov (.mv (.env 71)))]))))))))))))), [.slot (.slot 1), .slot (.slot 2), .slot (.slot 3)]⟩
theorem xor24 {n : Nat} (h : n < 16777216) : n ^^^ 16777215 = 16777215 - n := by
  apply Nat.eq_of_testBit_eq
  intro i
  rw [Nat.testBit_xor, show (16777215 : Nat) = 2 ^ 24 - 1 from rfl, Nat.testBit_two_pow_sub_one, show 2 ^ 24 - 1 - n = 2 ^ 24 - (n + 1) by omega, Nat.testBit_two_pow_sub_succ (x := n) (n := 24) (by omega)]
  by_cases hi : i < 24
  · simp [hi]
  · have : n.testBit i = false := Nat.testBit_lt_two_pow (Nat.lt_of_lt_of_le h (by
      rw [show (16777216 : Nat) = 2 ^ 24 from rfl]
      exact Nat.pow_le_pow_right (by omega) (by omega)))
    simp [hi, this]
theorem xor_add {n m : Nat} (hn : n < 16777216) (hm : m < 16777216) : n ^^^ m = 16777215 ↔ n + m = 16777215 := by
  constructor
  · intro h
    have : m = n ^^^ 16777215 := by rw [← h, ← Nat.xor_assoc, Nat.xor_self, Nat.zero_xor]
    rw [xor24 hn] at this
    omega
  · intro h
    have : m = n ^^^ 16777215 := by rw [xor24 hn]; omega
    rw [this, ← Nat.xor_assoc, Nat.xor_self, Nat.zero_xor]
section
variable {X : Type} {E : Nat → Option (Ent X)}
theorem r4put_ok (hE : ∀ f e, E f = some e → e.plain) (hf : E 42 = some (.bc b_ref4Put)) (hp : E 86 = some (.bc b_ref2Put)) {h : Hp X} {v r : AV} {pre b : List UInt8} (hv : RS h 1 v pre.length (pre.map ub)) (hr : RS h 1 r b.length (b.map ub)) (hn : pre.length ≤ 70368744177664) (hm : b.length ≤ 1048576) :
    WF (lim E) 42 [v, r] h fun o h' => Own1 h h' o ∧ OS h' 1 o (pre ++ recB b).length ((pre ++ recB b).map ub) := by
  refine wf_bc hE hf rfl ?_
  simp only [b_ref4Put, List.map, getS]
  repeat first|(refine BG ?_;first|(refine BH ?_;first|(refine BI ?_;refine BM ?_)|(refine BJ ?_;first|refine BN ?_|refine BO ?_)|refine BV (hr.lenv (by rfl)) ?_|refine BV (v_conv_u64 rfl (by omega)) ?_|refine BP ?_)|(refine BK ?_;first|refine BS rfl rfl ?_|refine BT rfl rfl ?_|refine BU rfl ?_)|(refine BL ?_;first|refine BQ ?_)|(refine BR ?_;try simp only [setS]))|refine AA ?_|refine AC ?_|refine AD ?_|refine AE ?_|refine AF rfl rfl ?_|refine AG rfl rfl ?_|refine AH ?_|refine AI ?_|refine AJ ?_|refine AK ?_|refine AL ?_|refine AM ?_|refine AN ?_|refine AO ?_|refine AP ?_|refine AQ rfl ?_|refine AR ?_|refine AS ?_|refine AT rfl ?_|refine AU rfl ?_
  refine wr_call_e rfl ((rput_ok hE hp hv (by omega) (m := b.length) (size := 3) (k := 3) (by decide)).mono fun o1 h1 ⟨k1, k2⟩ => ?_)
  repeat first|(refine BG ?_;first|(refine BH ?_;first|(refine BI ?_;refine BM ?_)|(refine BJ ?_;first|refine BN ?_|refine BO ?_)|refine BV (v_subu (a := 16777215) rfl rfl (by omega) (by omega)) ?_|refine BP ?_)|(refine BK ?_;first|refine BS rfl rfl ?_|refine BT rfl rfl ?_|refine BU rfl ?_)|(refine BL ?_;first|refine BQ ?_)|(refine BR ?_;try simp only [setS]))|refine AA ?_|refine AC ?_|refine AD ?_|refine AE ?_|refine AF rfl rfl ?_|refine AG rfl rfl ?_|refine AH ?_|refine AI ?_|refine AJ ?_|refine AK ?_|refine AL ?_|refine AM ?_|refine AN ?_|refine AO ?_|refine AP ?_|refine AQ rfl ?_|refine AR ?_|refine AS ?_|refine AT rfl ?_|refine AU rfl ?_
  refine wr_call_e rfl ((rput_ok hE hp k2.rs (by omega) (m := 16777215 - b.length) (size := 3) (k := 3) (by decide)).mono fun o2 h2 ⟨k3, k4⟩ => ?_)
  repeat first|(refine BG ?_;first|(refine BH ?_;first|(refine BI ?_;refine BM ?_)|(refine BJ ?_;first|refine BN ?_|refine BO ?_)|refine BP ?_)|(refine BK ?_;first|refine BS rfl rfl ?_|refine BT rfl rfl ?_|refine BU rfl ?_)|(refine BL ?_;first|refine BQ ?_)|(refine BR ?_;try simp only [setS]))|refine AA ?_|refine AC ?_|refine AD ?_|refine AE ?_|refine AF rfl rfl ?_|refine AG rfl rfl ?_|refine AH ?_|refine AI ?_|refine AJ ?_|refine AK ?_|refine AL ?_|refine AM ?_|refine AN ?_|refine AO ?_|refine AP ?_|refine AQ rfl ?_|refine AR ?_|refine AS ?_|refine AT rfl ?_|refine AU rfl ?_
  have hmx : (maxLen : Nat) = 9223372036854775807 := rfl
  have k5 := k1.trans k3
  refine wr_app_e rfl rfl k4 Nat.zero_lt_one (hr.up k5.1) (by omega) (by omega) fun o3 h3 a1 a2 a3 => ?_
  repeat first|(refine BG ?_;first|(refine BH ?_;first|(refine BI ?_;refine BM ?_)|(refine BJ ?_;first|refine BN ?_|refine BO ?_)|refine BP ?_)|(refine BK ?_;first|refine BS rfl rfl ?_|refine BT rfl rfl ?_|refine BU rfl ?_)|(refine BL ?_;first|refine BQ ?_)|(refine BR ?_;try simp only [setS]))|refine AA ?_|refine AC ?_|refine AD ?_|refine AE ?_|refine AF rfl rfl ?_|refine AG rfl rfl ?_|refine AH ?_|refine AI ?_|refine AJ ?_|refine AK ?_|refine AL ?_|refine AM ?_|refine AN ?_|refine AO ?_|refine AP ?_|refine AQ rfl ?_|refine AR ?_|refine AS ?_|refine AT rfl ?_|refine AU rfl ?_
  refine ⟨⟨k5.1.own a2 k5.2, fun g hg => ?_⟩, ?_⟩
  · rcases a3 g hg with hb | hb
    · exact k5.2 g hb
    · exact Nat.le_trans k5.1.n hb
  · have e : (pre ++ recB b).length = pre.length + 3 + 3 + b.length := by rw [List.length_append, recB_len]; omega
    rw [e]
    rw [encK_map, encK_map, ← xor24 (by omega)] at a1
    unfold recB
    show OS h3 1 o3 _ _
    simpa only [List.map_append, List.append_assoc] using a1
theorem r4all_ok (hE : ∀ f e, E f = some e → e.plain) (hf : E 45 = some (.bc b_ref4All)) (hg : E 92 = some (.bc b_ref2Get)) {h : Hp X} {v : AV} {bs : List UInt8} (hr : RS h 1 v bs.length (bs.map ub)) (hb : bs.length ≤ 1099511627776) :
    WF (lim E) 45 [v] h fun x h' => ∃ o, x = .tup [o, .int .i64 (allG (bs.length + 1) bs).2.1, .bool (allG (bs.length + 1) bs).2.2] ∧ Keep NoB h h' ∧ Recs h' o (allG (bs.length + 1) bs).1 h.n := by
  refine wf_bc hE hf rfl ?_
  simp only [b_ref4All, List.map, getS]
  have hmx : (maxLen : Nat) = 9223372036854775807 := rfl
  repeat first|(refine BG ?_;first|(refine BH ?_;first|(refine BI ?_;refine BM ?_)|(refine BJ ?_;first|refine BN ?_|refine BO ?_)|refine BP ?_)|(refine BK ?_;first|refine BS rfl rfl ?_|refine BT rfl rfl ?_|refine BU rfl ?_)|(refine BL ?_;first|refine BQ ?_)|(refine BR ?_;try simp only [setS]))|refine AA ?_|refine AC ?_|refine AD ?_|refine AE ?_|refine AF rfl rfl ?_|refine AG rfl rfl ?_|refine AH ?_|refine AI ?_|refine AJ ?_|refine AK ?_|refine AL ?_|refine AM ?_|refine AN ?_|refine AO ?_|refine AP ?_|refine AQ rfl ?_|refine AR ?_|refine AS ?_|refine AT rfl ?_|refine AU rfl ?_
  have hA0 : allG (bs.length + 1) (bs.drop 0) = allG (bs.length + 1) bs := by rw [List.drop_zero]
  generalize allG (bs.length + 1) bs = A at hA0 ⊢
  refine wb_loop (fun k t h' => ∃ (o s1 s2 s3 s6 s7 s8 s9 s10 : AV) (at' : Nat) (pre : List (List UInt8)), Keep NoB h h' ∧ Recs h' o pre h.n ∧ at' ≤ bs.length ∧ bs.length - at' < k ∧ pre.length * 6 ≤ at' ∧
    pre ++ (allG k (bs.drop at')).1 = A.1 ∧ at' + (allG k (bs.drop at')).2.1 = A.2.1 ∧ (allG k (bs.drop at')).2.2 = A.2.2 ∧ t = [v, s1, s2, s3, o, .int .i64 at', s6, s7, s8, s9, s10]) ?_ (bs.length + 1) _ _ ⟨.snil, _, _, _, _, _, _, _, _, 0, [], Keep.refl _ _, ⟨[], ⟨rfl, rfl⟩, (fun g q => q.elim), fun i r hi => by simp at hi⟩, by omega, by omega, by simp, by rw [hA0]; simp, by rw [hA0]; simp, by rw [hA0], rfl⟩
  rintro k t h' ⟨o, s1, s2, s3, s6, s7, s8, s9, s10, at', pre, hk, hrec, hat, hfu, hpre, q1, q2, q3, rfl⟩
  obtain ⟨k, rfl⟩ : ∃ k', k = k' + 1 := ⟨k - 1, by omega⟩
  have hr' := hr.up hk
  have hrl : (bs.drop at').length = bs.length - at' := List.length_drop
  simp only [allG] at q1 q2 q3
  by_cases c1 : bs.length - at' < 6
  · have c1' : (bs.length : Int) - (at' : Int) < 6 := by omega
    rw [if_pos (.inl (by omega))] at q1 q2 q3
    repeat first|(refine BG ?_;first|(refine BH ?_;first|(refine BI ?_;refine BM ?_)|(refine BJ ?_;first|refine BN ?_|refine BO ?_)|refine BV (hr'.lenv (by rfl)) ?_|refine BP ?_)|(refine BK ?_;first|refine BS rfl rfl ?_|refine BT rfl rfl ?_|refine BU rfl ?_)|(refine BL ?_;first|refine BQ ?_)|(refine BR ?_;try simp only [setS]))|refine AA ?_|refine AC ?_|refine AD ?_|refine AE ?_|refine AF rfl rfl ?_|refine AG rfl rfl ?_|refine AH ?_|refine AI ?_|refine AJ ?_|refine AK ?_|refine AL ?_|refine AM ?_|refine AN ?_|refine AO ?_|refine AP ?_|refine AQ rfl ?_|refine AR ?_|refine AS ?_|refine AT rfl ?_|refine AU rfl ?_
    refine ⟨o, ?_, hk, by rw [← q1]; simpa using hrec⟩
    rw [← q2, ← q3]
    rfl
  · have c1' : ¬ (bs.length : Int) - (at' : Int) < 6 := by omega
    obtain ⟨va, a1, a2, a3, a4⟩ := hr'.bytes (lo := at') (hi := bs.length) hat (Nat.le_refl _)
    obtain ⟨vb, b1, b2, b3, b4⟩ := hr'.bytes (lo := at' + 3) (hi := bs.length) (by omega) (Nat.le_refl _)
    rw [List.take_of_length_le (by rw [List.length_drop]; exact Nat.le_refl _)] at a1 b1
    have e3 : bs.drop (at' + 3) = (bs.drop at').drop 3 := by rw [List.drop_drop]
    rw [e3] at b1
    have x1 := be3 (bs.drop at')
    have x2 := be3 ((bs.drop at').drop 3)
    have hlf : lenF (bs.drop at') = (be ((bs.drop at').take 3), decide (be ((bs.drop at').take 3) ^^^ be (((bs.drop at').drop 3).take 3) = 16777215 ∧ be ((bs.drop at').take 3) ≤ 1048576)) := by unfold lenF; rw [if_neg (by omega)]
    rw [hlf] at q1 q2 q3
    simp only at q1 q2 q3
    have hdl3 : ((bs.drop at').drop 3).length = bs.length - at' - 3 := by rw [List.length_drop, hrl]
    generalize hrs : bs.drop at' = rest at *
    repeat first|(refine BG ?_;first|(refine BH ?_;first|(refine BI ?_;refine BM ?_)|(refine BJ ?_;first|refine BN ?_|refine BO ?_)|refine BV (hr'.lenv (by rfl)) ?_|refine BV (a4 (by rfl) (.inr ⟨_, _, rfl, rfl⟩) (.inl ⟨rfl, rfl⟩)) ?_|refine BP ?_)|(refine BK ?_;first|refine BS rfl rfl ?_|refine BT rfl rfl ?_|refine BU rfl ?_)|(refine BL ?_;first|refine BQ ?_)|(refine BR ?_;try simp only [setS]))|refine AA ?_|refine AC ?_|refine AD ?_|refine AE ?_|refine AF rfl rfl ?_|refine AG rfl rfl ?_|refine AH ?_|refine AI ?_|refine AJ ?_|refine AK ?_|refine AL ?_|refine AM ?_|refine AN ?_|refine AO ?_|refine AP ?_|refine AQ rfl ?_|refine AR ?_|refine AS ?_|refine AT rfl ?_|refine AU rfl ?_
    refine wr_call_e rfl ((rget_ok hE hg a1 (n := 3) (by omega) (by omega)).mono fun x h1 ⟨y1, y2⟩ => ?_)
    subst y1 y2
    repeat first|(refine BG ?_;first|(refine BH ?_;first|(refine BI ?_;refine BM ?_)|(refine BJ ?_;first|refine BN ?_|refine BO ?_)|refine BV (hr'.lenv (by rfl)) ?_|refine BV (b4 (by rfl) (.inr ⟨_, _, rfl, by rfl⟩) (.inl ⟨rfl, rfl⟩)) ?_|refine BP ?_)|(refine BK ?_;first|refine BS rfl rfl ?_|refine BT rfl rfl ?_|refine BU rfl ?_)|(refine BL ?_;first|refine BQ ?_)|(refine BR ?_;try simp only [setS]))|refine AA ?_|refine AC ?_|refine AD ?_|refine AE ?_|refine AF rfl rfl ?_|refine AG rfl rfl ?_|refine AH ?_|refine AI ?_|refine AJ ?_|refine AK ?_|refine AL ?_|refine AM ?_|refine AN ?_|refine AO ?_|refine AP ?_|refine AQ rfl ?_|refine AR ?_|refine AS ?_|refine AT rfl ?_|refine AU rfl ?_
    refine wr_call_e rfl ((rget_ok hE hg b1 (n := 3) (by omega) (by omega)).mono fun x h2 ⟨y1, y2⟩ => ?_)
    subst y1 y2
    generalize be (rest.take 3) = n at *
    generalize be ((rest.drop 3).take 3) = m at *
    have hxa := xor_add x1 x2
    by_cases hs : n + m = 16777215
    · by_cases hn : n ≤ 1048576
      · have hd : decide (n ^^^ m = 16777215 ∧ n ≤ 1048576) = true := decide_eq_true ⟨hxa.2 hs, hn⟩
        rw [hd] at q1 q2 q3
        by_cases c2 : bs.length - at' - 6 < n
        · rw [if_pos (.inr ⟨rfl, by omega⟩)] at q1 q2 q3
          have c2' : (bs.length : Int) - (at' : Int) - 6 < (n : Int) := by omega
          repeat first|(refine BG ?_;first|(refine BH ?_;first|(refine BI ?_;refine BM ?_)|(refine BJ ?_;first|refine BN ?_|refine BO ?_)|refine BV (hr'.lenv (by rfl)) ?_|refine BV (v_addu rfl rfl (by omega)) ?_|refine BV (v_conv_i64 rfl (by omega)) ?_|refine BP ?_)|(refine BK ?_;first|refine BS rfl rfl ?_|refine BT rfl rfl ?_|refine BU rfl ?_)|(refine BL ?_;first|refine BQ ?_)|(refine BR ?_;try simp only [setS]))|refine AA ?_|refine AC ?_|refine AD ?_|refine AE ?_|refine AF rfl rfl ?_|refine AG rfl rfl ?_|refine AH ?_|refine AI ?_|refine AJ ?_|refine AK ?_|refine AL ?_|refine AM ?_|refine AN ?_|refine AO ?_|refine AP ?_|refine AQ rfl ?_|refine AR ?_|refine AS ?_|refine AT rfl ?_|refine AU rfl ?_
          refine ⟨o, ?_, hk, by rw [← q1]; simpa using hrec⟩
          rw [← q2, ← q3]
          rfl
        · rw [if_neg (by rintro (q | ⟨_, q⟩); omega; omega), if_neg (by decide)] at q1 q2 q3
          have c2' : ¬ (bs.length : Int) - (at' : Int) - 6 < (n : Int) := by omega
          obtain ⟨cv, d1, d2, d3, d4⟩ := hr'.bytes (lo := at' + 6) (hi := at' + 6 + n) (by omega) (by omega)
          have e6 : (bs.drop (at' + 6)).take (at' + 6 + n - (at' + 6)) = (rest.drop 6).take n := by rw [Nat.add_sub_cancel_left, ← hrs, List.drop_drop]
          rw [e6] at d1
          have hnl : ((rest.drop 6).take n).length = n := by rw [List.length_take, List.length_drop]; omega
          repeat first|(refine BG ?_;first|(refine BH ?_;first|(refine BI ?_;refine BM ?_)|(refine BJ ?_;first|refine BN ?_|refine BO ?_)|refine BV (hr'.lenv (by rfl)) ?_|refine BV (v_addu rfl rfl (by omega)) ?_|refine BV (v_conv_i64 rfl (by omega)) ?_|refine BV (d4 (by rfl) (.inr ⟨_, _, rfl, by rfl⟩) (.inr ⟨_, _, rfl, by rfl⟩)) ?_|refine BP ?_)|(refine BK ?_;first|refine BS rfl rfl ?_|refine BT rfl rfl ?_|refine BU rfl ?_)|(refine BL ?_;first|refine BW ef_bs0 ?_|refine BQ ?_)|(refine BR ?_;try simp only [setS]))|refine AA ?_|refine AC ?_|refine AD ?_|refine AE ?_|refine AF rfl rfl ?_|refine AG rfl rfl ?_|refine AH ?_|refine AI ?_|refine AJ ?_|refine AK ?_|refine AL ?_|refine AM ?_|refine AN ?_|refine AO ?_|refine AP ?_|refine AQ rfl ?_|refine AR ?_|refine AS ?_|refine AT rfl ?_|refine AU rfl ?_
          have kp : Keep NoB h2 (h2.push (.rw [])) := Keep.push _ _ _
          refine wr_app_e (n := 0) (cells := []) rfl rfl (os_push0 Nat.zero_lt_one) Nat.zero_lt_one (d1.up kp) (by omega) (by omega) fun c h3 u1 u2 u3 => ?_
          have k3 : Keep NoB h2 h3 := kp.own u2 (fun j q => by have q : j = h2.n := q; omega)
          rw [Nat.zero_add, List.nil_append] at u1
          repeat first|(refine BG ?_;first|(refine BH ?_;first|(refine BI ?_;refine BM ?_)|(refine BJ ?_;first|refine BN ?_|refine BO ?_)|refine BP ?_)|(refine BK ?_;first|refine BS rfl rfl ?_|refine BT rfl rfl ?_|refine BU rfl ?_)|(refine BL ?_;first|refine BW (ef_bs1' rfl u1.one.1 u1.one.2) ?_|refine BQ ?_)|(refine BR ?_;try simp only [setS]))|refine AA ?_|refine AC ?_|refine AD ?_|refine AE ?_|refine AF rfl rfl ?_|refine AG rfl rfl ?_|refine AH ?_|refine AI ?_|refine AJ ?_|refine AK ?_|refine AL ?_|refine AM ?_|refine AN ?_|refine AO ?_|refine AP ?_|refine AQ rfl ?_|refine AR ?_|refine AS ?_|refine AT rfl ?_|refine AU rfl ?_
          obtain ⟨cells, g1, g2, g3⟩ := hrec
          have kq : Keep NoB h3 (h3.push (.rw [c])) := Keep.push _ _ _
          refine wr_app_e rfl rfl ((g1.up k3).up kq) Nat.zero_lt_one (rs_push rfl) (by omega) (by omega) fun o' h4 w1 w2 w3 => ?_
          repeat first|(refine BG ?_;first|(refine BH ?_;first|(refine BI ?_;refine BM ?_)|(refine BJ ?_;first|refine BN ?_|refine BO ?_)|refine BV (v_conv_i64 rfl (by omega)) ?_|refine BP ?_)|(refine BK ?_;first|refine BS rfl rfl ?_|refine BT rfl rfl ?_|refine BU rfl ?_)|(refine BL ?_;first|refine BQ ?_)|(refine BR ?_;try simp only [setS]))|refine AA ?_|refine AC ?_|refine AD ?_|refine AE ?_|refine AF rfl rfl ?_|refine AG rfl rfl ?_|refine AH ?_|refine AI ?_|refine AJ ?_|refine AK ?_|refine AL ?_|refine AM ?_|refine AN ?_|refine AO ?_|refine AP ?_|refine AQ rfl ?_|refine AR ?_|refine AS ?_|refine AT rfl ?_|refine AU rfl ?_
          have k4 : Keep NoB h h4 := ((hk.and k3).and kq).own w2 g2
          have hk3 := k3.n
          have hkn := hk.n
          have blc : ∀ j, blk c j → h2.n ≤ j := fun j q => by
            rcases u3 j q with q | q
            · have q : j = h2.n := q; omega
            · simp only [push_n] at q; omega
          have ed : bs.drop (at' + (6 + n)) = rest.drop (6 + n) := by rw [← hrs, List.drop_drop]
          rw [show ((at' : Int) + 6 + (n : Int)) = ((at' + (6 + n) : Nat) : Int) by omega]
          refine round_norm k (Nat.lt_succ_self _) ⟨o', _, _, _, _, _, _, _, _, at' + (6 + n), pre ++ [(rest.drop 6).take n], k4, ⟨cells ++ [c], ?_, ?_, ?_⟩, by omega, by omega, ?_, ?_, ?_, ?_, rfl⟩
          · rw [List.length_append, List.length_singleton]; exact w1
          · intro g hg
            rcases w3 g hg with hb | hb
            · exact g2 g hb
            · simp only [push_n] at hb; omega
          · intro i r hi
            have hcl : cells.length = pre.length := by have := g1.len; omega
            rw [List.getElem?_append] at hi
            rw [List.getElem?_append]
            by_cases hil : i < pre.length
            · rw [if_pos hil] at hi
              rw [if_pos (by omega)]
              obtain ⟨c0, z1, z2, z3, z4⟩ := g3 i r hi
              refine ⟨c0, z1, z2, ((z3.up k3).up kq).keep w2 (fun j q1 q2 => (z4 j q1).2 q2), fun j q => ⟨(z4 j q).1, fun q2 => ?_⟩⟩
              rcases w3 j q2 with q3 | q3
              · exact (z4 j q).2 q3
              · have := z3.lt j q; simp only [push_n] at q3; omega
            · rw [if_neg hil] at hi
              rw [if_neg (by omega)]
              have hi0 : i = pre.length := by
                have := (List.getElem?_eq_some_iff.1 hi).1
                simp at this; omega
              subst hi0
              rw [Nat.sub_self] at hi
              simp at hi
              subst hi
              rw [hcl, Nat.sub_self]
              refine ⟨c, rfl, u1.nsemp, ?_, fun j q => ⟨by have := blc j q; omega, fun q2 => ?_⟩⟩
              · rw [hnl]
                rw [hnl] at u1
                exact (u1.rs.up kq).keep w2 (fun j q1 q2 => by have := blc j q1; have := g1.lt j q2; omega)
              · rcases w3 j q2 with q3 | q3
                · have := blc j q; have := g1.lt j q3; omega
                · have := u1.lt j q; simp only [push_n] at q3; omega
          · rw [List.length_append]; simp; omega
          · rw [← q1, ed]; simp
          · rw [← q2, ed]
            show at' + (6 + n) + _ = at' + (6 + n + _)
            omega
          · rw [← q3, ed]
      · have hd : decide (n ^^^ m = 16777215 ∧ n ≤ 1048576) = false := decide_eq_false (fun q => hn q.2)
        rw [hd, if_neg (by rintro (q | ⟨q, _⟩); omega; cases q), if_pos rfl] at q1 q2 q3
        have hn' : ¬ (n : Int) ≤ 1048576 := by omega
        repeat first|(refine BG ?_;first|(refine BH ?_;first|(refine BI ?_;refine BM ?_)|(refine BJ ?_;first|refine BN ?_|refine BO ?_)|refine BV (v_addu rfl rfl (by omega)) ?_|refine BP ?_)|(refine BK ?_;first|refine BS rfl rfl ?_|refine BT rfl rfl ?_|refine BU rfl ?_)|(refine BL ?_;first|refine BQ ?_)|(refine BR ?_;try simp only [setS]))|refine AA ?_|refine AC ?_|refine AD ?_|refine AE ?_|refine AF rfl rfl ?_|refine AG rfl rfl ?_|refine AH ?_|refine AI ?_|refine AJ ?_|refine AK ?_|refine AL ?_|refine AM ?_|refine AN ?_|refine AO ?_|refine AP ?_|refine AQ rfl ?_|refine AR ?_|refine AS ?_|refine AT rfl ?_|refine AU rfl ?_
        refine ⟨o, ?_, hk, by rw [← q1]; simpa using hrec⟩
        rw [← q2, ← q3]
        rfl
    · have hd : decide (n ^^^ m = 16777215 ∧ n ≤ 1048576) = false := decide_eq_false (fun q => hs (hxa.1 q.1))
      rw [hd, if_neg (by rintro (q | ⟨q, _⟩); omega; cases q), if_pos rfl] at q1 q2 q3
      have hs' : ¬ ((n + m : Nat) : Int) = 16777215 := by omega
      repeat first|(refine BG ?_;first|(refine BH ?_;first|(refine BI ?_;refine BM ?_)|(refine BJ ?_;first|refine BN ?_|refine BO ?_)|refine BV (v_addu rfl rfl (by omega)) ?_|refine BP ?_)|(refine BK ?_;first|refine BS rfl rfl ?_|refine BT rfl rfl ?_|refine BU rfl ?_)|(refine BL ?_;first|refine BQ ?_)|(refine BR ?_;try simp only [setS]))|refine AA ?_|refine AC ?_|refine AD ?_|refine AE ?_|refine AF rfl rfl ?_|refine AG rfl rfl ?_|refine AH ?_|refine AI ?_|refine AJ ?_|refine AK ?_|refine AL ?_|refine AM ?_|refine AN ?_|refine AO ?_|refine AP ?_|refine AQ rfl ?_|refine AR ?_|refine AS ?_|refine AT rfl ?_|refine AU rfl ?_
      refine ⟨o, ?_, hk, by rw [← q1]; simpa using hrec⟩
      rw [← q2, ← q3]
      rfl
end
end Am
end Go.Proofs.Ythgcdoahoechhaa
namespace Go.Proofs.Ythgcdoahoechhaa
namespace Am
open Go.RowKit
set_option maxRecDepth 100000
end Am
end Go.Proofs.Ythgcdoahoechhaa
namespace Go.Proofs.Ythgcdoahoechhaa
namespace Am
open Go.RowKit
set_option maxRecDepth 100000
theorem spl_one {o : Nat} {c : AV} {l : List AV} (ho : o < l.length) : spl o [c] l = l.set o c := by
  unfold spl
  rw [List.set_eq_take_append_cons_drop, if_pos ho]
  simp
section
variable {X : Type} {h : Hp X}
theorem OS.set {n k : Nat} {v c : AV} {cells : List AV} (a : OS h 1 v n cells) (hk : k < n) : ∃ g o l, (∀ {hh : Hp X} {e : En} {t : List AV} {x y : Od} {kk : IntKind}, x.ev e t = v → y.ev e t = .int kk (k : Int) → (Mv.iaddr 1 x y).ev e t hh = some (.ptr g o)) ∧
    Bx h g l ∧ o < l.length ∧ l[o]? = cells[k]? ∧ OS (h.put g (.rw (spl o [c] l))) 1 v n (cells.set k c) ∧ blk v g := by
  cases v <;> first | exact a.elim | skip
  · rename_i z g o m cap
    obtain ⟨rfl, rfl, hz, hg, l, hl, hle, rfl, hcap⟩ := a
    refine ⟨g, o + k * 1, l, fun {hh e t x y kk} hx hy => ?_, ⟨hg, hl⟩, by omega, ?_, ⟨rfl, rfl, hz, hg, _, Hp.put_self _ _ _, ?_, ?_, ?_⟩, rfl⟩
    · simp only [Mv.ev, hx, hy, nOf]
      rw [show Nat.blt k m = true by rw [Nat.blt_eq]; exact hk]
      rfl
    · rw [List.getElem?_take_of_lt (by omega), List.getElem?_drop, Nat.mul_one]
    · rw [spl_one (by omega), List.length_set]; exact hle
    · rw [spl_one (by omega), Nat.mul_one, List.drop_set, if_neg (by omega), List.take_set, Nat.add_sub_cancel_left, Nat.mul_one]
    · rw [spl_one (by omega), List.length_set]; exact hcap
  · obtain ⟨rfl, _⟩ := a; omega
theorem v_xor8 {e : En} {t : List AV} {q : Eq} {x y : Od} {a b : Int} (hx : x.ev e t = .int .u8 a) (hy : y.ev e t = .int .u8 b) : ∃ z : UInt8, ∀ {hh : Hp X}, (Mv.bin .xor q x y).ev e t hh = some (ub z) := by
  refine ⟨UInt8.ofNat (BitVec.ofInt 8 a ^^^ BitVec.ofInt 8 b).toNat, fun {hh} => ?_⟩
  simp only [Mv.ev, hx, hy, Am.bin, AV.onInt, isShift, Bool.false_or, decide_true, cond_true, intOp]
  exact congrArg some (int_eq (wr_u8 _))
theorem v_seq_t {e : En} {t : List AV} {q : Eq} {x y : Od} {a b : List UInt8} (hx : x.ev e t = .str a) (hy : y.ev e t = .str b) (hab : a = b) : (Mv.bin .eql q x y).ev e t h = some (.bool true) := by
  rw [v_seql hx hy, hab]
  simp
theorem bset {bs : List UInt8} {k : Nat} {z : UInt8} : (bs.map ub).set k (ub z) = (bs.set k z).map ub := by rw [List.map_set]
end
structure LBx (h : Hp MD) (g : Nat) (hi : Nat) (l : List Int) (w n : Int) : Prop where
  out : ∃ tv, Bx h g [tv, .int .i64 w, .int .i64 n] ∧ RS h 1 tv l.length (l.map iv) ∧ ∀ k, blk tv k → k < hi
theorem LBx.up {h h' : Hp MD} {g hi : Nat} {l : List Int} {w n : Int} (a : LBx h g hi l w n) (k : Keep NoB h h') : LBx h' g hi l w n := by
  obtain ⟨tv, h1, h2, h3⟩ := a.out
  exact ⟨⟨tv, h1.up k, h2.up k, h3⟩⟩
theorem LBx.keep {S : Nat → Prop} {h h' : Hp MD} {g hi : Nat} {l : List Int} {w n : Int} (a : LBx h g hi l w n) (k : Keep S h h') (hg : ¬ S g) (hs : ∀ j, S j → hi ≤ j) : LBx h' g hi l w n := by
  obtain ⟨tv, h1, h2, h3⟩ := a.out
  exact ⟨⟨tv, h1.keep k hg, h2.keep k (fun j q1 q2 => by have := h3 j q1; have := hs j q2; omega), h3⟩⟩
theorem LBx.lt {h : Hp MD} {g hi : Nat} {l : List Int} {w n : Int} (a : LBx h g hi l w n) : g < h.n := by
  obtain ⟨tv, h1, _⟩ := a.out
  exact h1.lt
end Am
end Go.Proofs.Ythgcdoahoechhaa
