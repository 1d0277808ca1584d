/- Chapter 10: both ways to read a list tell the same. No program. Package manifest: Write, Read told. Numbers brought within bounds; layer 10's lists as they are made. Numbers as texts: manifest's and chapter 1's digits are the same. Chapter 4's own Put, All; layer 10's helpers. Layer 10's helpers: a fresh disk, a disk with a file; encodes, decodes. Layer 10: what its laws share. -/
import Derived.Test.YthgcdoahoechhaaMI
import Derived.Test.YthgcdoahoechhaaAm36
set_option linter.unusedVariables false
set_option linter.unusedSimpArgs false
namespace Go.Proofs.Ythgcdoahoechhaa
namespace Am
open Go.RowKit
set_option maxRecDepth 100000
end Am
end Go.Proofs.Ythgcdoahoechhaa
namespace Go.Proofs.Ythgcdoahoechhaa
namespace Am
open Go.RowKit
set_option maxRecDepth 100000
theorem fl_create (m : MD) (s : Bs) : (m.create s).2.fs.length ≤ m.fs.length + 1 := by
  unfold MD.create
  split
  · exact Nat.le_succ _
  · split
    · rw [MD.count_fs]; exact Nat.le_succ _
    · refine Nat.le_trans (MD.length_put _ _) ?_
      rw [MD.count_fs]; exact Nat.le_refl _
def recB (b : List UInt8) : List UInt8 := encB b.length 3 ++ encB (b.length ^^^ 16777215) 3 ++ b
theorem recB_len (b : List UInt8) : (recB b).length = 6 + b.length := by simp [recB, encB_len]; omega
theorem recC_map (n : Nat) : recC n = (encB n 3 ++ encB (n ^^^ 16777215) 3).map ub := by
  unfold recC
  rw [encK_map, encK_map, List.map_append]
theorem frPut_b {X : Type} {E : Nat → Option (Ent X)} (hE : ∀ f e, E f = some e → e.plain) (hf : E 77 = some (.bc b_frPut)) (hg : E 106 = some (.bc b_octPut)) (hc : E 85 = some (.bc b_clone)) {h : Hp X} {v r : AV} {pre b : List UInt8} (hv : RS h 1 v pre.length (pre.map ub)) (hs : v ≠ .semp) (hr : RS h 1 r b.length (b.map ub)) (hn : pre.length ≤ 70368744177664) (hm : b.length ≤ 1048576) :
    WF (lim E) 77 [v, r] h fun x h' => ∃ o, x = .tup [o, .int .i64 0] ∧ Own1 h h' o ∧ OS h' 1 o (pre ++ recB b).length ((pre ++ recB b).map ub) := by
  refine (frPut_ok hE hf hg hc hv hs hr hn hm).mono fun x h' ⟨o, e1, e2, e3⟩ => ⟨o, e1, e2, ?_⟩
  rw [recC_map] at e3
  have e : (pre ++ recB b).length = pre.length + 6 + b.length := by rw [List.length_append, recB_len]; omega
  rw [e]
  unfold recB
  simpa only [List.map_append, List.append_assoc] using e3
theorem allG_le : ∀ (k : Nat) (bs : List UInt8), ∀ r ∈ (allG k bs).1, r.length ≤ bs.length
  | 0, bs, r, h => by simp [allG] at h
  | k + 1, bs, r, h => by
    rw [allG] at h
    split at h
    · simp at h
    · split at h
      · simp at h
      · rcases List.mem_cons.1 h with rfl | h
        · rw [List.length_take, List.length_drop]; omega
        · have := allG_le k _ r h
          rw [List.length_drop] at this
          omega
end Am
end Go.Proofs.Ythgcdoahoechhaa
namespace Go.Proofs.Ythgcdoahoechhaa
namespace Am
open Go.RowKit
set_option maxRecDepth 100000
def b_keepCut : BF := ⟨13, [0, 1, 4, 8], (.seq (.reg [.mk none (.slot 2) (.mov (.mv (.const .snil)))]) (.seq (.seq (.reg [.mk none (.env 5) (.mov (.mv (.slot 0))), .mk none (.env 6) (.mov (.lenv (.env 5))), .mk none (.env 7) (.mov (.mv (.slot 1))), .mk none (.slot 3) (.mov (.bin .gtr .no (.env 6) (.env 7)))]) (.cond (.slot 3) (.seq (.reg [.mk none (.env 9) (.mov (.mv (.slot 0))), .mk none (.env 10) (.mov (.mv (.slot 1))), .mk none (.env 11) (.mov (.sl 1 (.env 9) none (some (.env 10)) none)), .mk none (.slot 2) (.mov (.mv (.env 11)))]) .ret) .skip)) (.seq (.reg [.mk none (.env 12) (.mov (.mv (.slot 0))), .mk none (.slot 2) (.mov (.mv (.env 12)))]) .ret))), [.slot (.slot 2)]⟩
section
variable {X : Type} {E : Nat → Option (Ent X)}
theorem cut_ok (hE : ∀ f e, E f = some e → e.plain) (hf : E 27 = some (.bc b_keepCut)) {h : Hp X} {v : AV} {bs : List UInt8} (hr : RS h 1 v bs.length (bs.map ub)) {n : Nat} (hn : n ≤ 1000000) :
    WF (lim E) 27 [v, .int .i64 n] h fun r h' => h' = h ∧ RS h 1 r (bs.take n).length ((bs.take n).map ub) ∧ (∀ k, blk r k → blk v k) ∧ (v ≠ .semp → r ≠ .semp) := by
  refine wf_bc hE hf rfl ?_
  simp only [b_keepCut, List.map, getS]
  by_cases hc : (n : Int) < bs.length
  · obtain ⟨v2, q1, q2, q3, q4⟩ := hr.bytes (lo := 0) (hi := n) (Nat.zero_le _) (by omega)
    rw [List.drop_zero, Nat.sub_zero] at q1
    repeat first|(refine BG ?_;first|(refine BH ?_;first|(refine BI ?_;refine BM ?_)|(refine BJ ?_;first|refine BN ?_|refine BO ?_)|refine BV (hr.lenv (by rfl)) ?_|refine BV (q4 (by rfl) (.inl ⟨rfl, rfl⟩) (.inr ⟨_, _, rfl, rfl⟩)) ?_|refine BP ?_)|(refine BK ?_;first|refine BS rfl rfl ?_|refine BT rfl rfl ?_|refine BU rfl ?_)|(refine BL ?_;first|refine BQ ?_)|(refine BR ?_;try simp only [setS]))|refine AA ?_|refine AC ?_|refine AD ?_|refine AE ?_|refine AF rfl rfl ?_|refine AG rfl rfl ?_|refine AH ?_|refine AI ?_|refine AJ ?_|refine AK ?_|refine AL ?_|refine AM ?_|refine AN ?_|refine AO ?_|refine AP ?_|refine AQ rfl ?_|refine AR ?_|refine AS ?_|refine AT rfl ?_|refine AU rfl ?_
    exact ⟨rfl, q1, q2, q3⟩
  · repeat first|(refine BG ?_;first|(refine BH ?_;first|(refine BI ?_;refine BM ?_)|(refine BJ ?_;first|refine BN ?_|refine BO ?_)|refine BV (hr.lenv (by rfl)) ?_|refine BP ?_)|(refine BK ?_;first|refine BS rfl rfl ?_|refine BT rfl rfl ?_|refine BU rfl ?_)|(refine BL ?_;first|refine BQ ?_)|(refine BR ?_;try simp only [setS]))|refine AA ?_|refine AC ?_|refine AD ?_|refine AE ?_|refine AF rfl rfl ?_|refine AG rfl rfl ?_|refine AH ?_|refine AI ?_|refine AJ ?_|refine AK ?_|refine AL ?_|refine AM ?_|refine AN ?_|refine AO ?_|refine AP ?_|refine AQ rfl ?_|refine AR ?_|refine AS ?_|refine AT rfl ?_|refine AU rfl ?_
    refine ⟨rfl, ?_, fun k q => q, fun q => q⟩
    rw [List.take_of_length_le (by omega)]
    exact hr
end
end Am
end Go.Proofs.Ythgcdoahoechhaa
namespace Go.Proofs.Ythgcdoahoechhaa
namespace Am
open Go.RowKit
set_option maxRecDepth 100000
end Am
end Go.Proofs.Ythgcdoahoechhaa
namespace Go.Proofs.Ythgcdoahoechhaa
namespace Am
open Go.RowKit
set_option maxRecDepth 100000
def b_ref4Put : BF := ⟨17, [0, 1, 4, 5], (.seq (.reg [.mk none (.slot 2) (.mov (.mv (.const .snil)))]) (.seq (.reg [.mk none (.env 6) (.mov (.mv (.slot 1))), .mk none (.env 7) (.mov (.lenv (.env 6))), .mk none (.env 8) (.mov (.conv .u64 (.env 7))), .mk none (.slot 3) (.mov (.mv (.env 8)))]) (.seq (.reg [.mk none (.env 9) (.mov (.mv (.slot 0))), .mk none (.env 10) (.mov (.mv (.slot 3))), .mk none (.env 11) (.call 86 [(.env 9), (.env 10), (.const (.int .i64 3))]), .mk none (.env 12) (.mov (.mv (.slot 3))), .mk none (.env 13) (.mov (.bin .sub .no (.const (.int .u64 16777215)) (.env 12))), .mk none (.env 14) (.call 86 [(.env 11), (.env 13), (.const (.int .i64 3))]), .mk none (.env 15) (.mov (.mv (.slot 1))), .mk none (.env 16) (.eff (.append 1 1 (.env 14) (.env 15))), .mk none (.slot 2) (.mov (.mv (.env 16)))]) .ret))), [.slot (.slot 2)]⟩
theorem xor24 {n : Nat} (h : n < 16777216) : n ^^^ 16777215 = 16777215 - n := by
  apply Nat.eq_of_testBit_eq
  intro i
  rw [Nat.testBit_xor, show (16777215 : Nat) = 2 ^ 24 - 1 from rfl, Nat.testBit_two_pow_sub_one, show 2 ^ 24 - 1 - n = 2 ^ 24 - (n + 1) by omega, Nat.testBit_two_pow_sub_succ (x := n) (n := 24) (by omega)]
  by_cases hi : i < 24
  · simp [hi]
  · have : n.testBit i = false := Nat.testBit_lt_two_pow (Nat.lt_of_lt_of_le h (by
      rw [show (16777216 : Nat) = 2 ^ 24 from rfl]
      exact Nat.pow_le_pow_right (by omega) (by omega)))
    simp [hi, this]
end Am
end Go.Proofs.Ythgcdoahoechhaa
namespace Go.Proofs.Ythgcdoahoechhaa
namespace Am
open Go.RowKit
set_option maxRecDepth 100000
end Am
end Go.Proofs.Ythgcdoahoechhaa
namespace Go.Proofs.Ythgcdoahoechhaa
namespace Am
open Go.RowKit
set_option maxRecDepth 100000
theorem spl_one {o : Nat} {c : AV} {l : List AV} (ho : o < l.length) : spl o [c] l = l.set o c := by
  unfold spl
  rw [List.set_eq_take_append_cons_drop, if_pos ho]
  simp
section
variable {X : Type} {h : Hp X}
theorem OS.set {n k : Nat} {v c : AV} {cells : List AV} (a : OS h 1 v n cells) (hk : k < n) : ∃ g o l, (∀ {hh : Hp X} {e : En} {t : List AV} {x y : Od} {kk : IntKind}, x.ev e t = v → y.ev e t = .int kk (k : Int) → (Mv.iaddr 1 x y).ev e t hh = some (.ptr g o)) ∧
    Bx h g l ∧ o < l.length ∧ l[o]? = cells[k]? ∧ OS (h.put g (.rw (spl o [c] l))) 1 v n (cells.set k c) ∧ blk v g := by
  cases v <;> first | exact a.elim | skip
  · rename_i z g o m cap
    obtain ⟨rfl, rfl, hz, hg, l, hl, hle, rfl, hcap⟩ := a
    refine ⟨g, o + k * 1, l, fun {hh e t x y kk} hx hy => ?_, ⟨hg, hl⟩, by omega, ?_, ⟨rfl, rfl, hz, hg, _, Hp.put_self _ _ _, ?_, ?_, ?_⟩, rfl⟩
    · simp only [Mv.ev, hx, hy, nOf]
      rw [show Nat.blt k m = true by rw [Nat.blt_eq]; exact hk]
      rfl
    · rw [List.getElem?_take_of_lt (by omega), List.getElem?_drop, Nat.mul_one]
    · rw [spl_one (by omega), List.length_set]; exact hle
    · rw [spl_one (by omega), Nat.mul_one, List.drop_set, if_neg (by omega), List.take_set, Nat.add_sub_cancel_left, Nat.mul_one]
    · rw [spl_one (by omega), List.length_set]; exact hcap
  · obtain ⟨rfl, _⟩ := a; omega
end
structure LBx (h : Hp MD) (g : Nat) (hi : Nat) (l : List Int) (w n : Int) : Prop where
  out : ∃ tv, Bx h g [tv, .int .i64 w, .int .i64 n] ∧ RS h 1 tv l.length (l.map iv) ∧ ∀ k, blk tv k → k < hi
theorem LBx.up {h h' : Hp MD} {g hi : Nat} {l : List Int} {w n : Int} (a : LBx h g hi l w n) (k : Keep NoB h h') : LBx h' g hi l w n := by
  obtain ⟨tv, h1, h2, h3⟩ := a.out
  exact ⟨⟨tv, h1.up k, h2.up k, h3⟩⟩
theorem LBx.keep {S : Nat → Prop} {h h' : Hp MD} {g hi : Nat} {l : List Int} {w n : Int} (a : LBx h g hi l w n) (k : Keep S h h') (hg : ¬ S g) (hs : ∀ j, S j → hi ≤ j) : LBx h' g hi l w n := by
  obtain ⟨tv, h1, h2, h3⟩ := a.out
  exact ⟨⟨tv, h1.keep k hg, h2.keep k (fun j q1 q2 => by have := h3 j q1; have := hs j q2; omega), h3⟩⟩
theorem LBx.lt {h : Hp MD} {g hi : Nat} {l : List Int} {w n : Int} (a : LBx h g hi l w n) : g < h.n := by
  obtain ⟨tv, h1, _⟩ := a.out
  exact h1.lt
end Am
end Go.Proofs.Ythgcdoahoechhaa
