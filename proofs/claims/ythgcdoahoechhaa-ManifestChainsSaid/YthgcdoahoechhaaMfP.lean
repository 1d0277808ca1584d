/- Lists and records in plain Lean: what is written is read; what a Write makes of a disk. No program. -/
import Derived.Test.YthgcdoahoechhaaMJ
set_option linter.unusedVariables false
set_option linter.unusedSimpArgs false
namespace Go.Proofs.Ythgcdoahoechhaa
namespace Am
open Go.RowKit
set_option maxRecDepth 100000
theorem be_acc : ∀ (l : List UInt8) (a : Nat), l.foldl (fun n b => n * 256 + b.toNat) a = a * 256 ^ l.length + be l
  | [], a => by simp [be]
  | b :: l, a => by
    have h1 := be_acc l (a * 256 + b.toNat)
    have h2 := be_acc l b.toNat
    show l.foldl _ (a * 256 + b.toNat) = a * 256 ^ (l.length + 1) + l.foldl _ (0 * 256 + b.toNat)
    rw [h1, Nat.zero_mul, Nat.zero_add, h2, Nat.pow_succ, Nat.add_mul, Nat.mul_assoc, Nat.mul_comm 256, Nat.add_assoc]
theorem be_cons (b : UInt8) (l : List UInt8) : be (b :: l) = b.toNat * 256 ^ l.length + be l := by
  show l.foldl _ (0 * 256 + b.toNat) = _
  rw [Nat.zero_mul, Nat.zero_add, be_acc]
theorem be_encB' (m : Nat) : ∀ k, be (encB m k) = m % 256 ^ k
  | 0 => by simp [encB, be, Nat.mod_one]
  | k + 1 => by
    have e : 2 ^ (8 * k) = 256 ^ k := by rw [Nat.pow_mul]
    have e2 := Nat.mod_pow_succ (x := m) (b := 256) (k := k)
    rw [encB, be_cons, encB_len, be_encB' m k, UInt8.toNat_ofNat', e, e2, Nat.mul_comm, Nat.add_comm]
theorem be_encB {m k : Nat} (h : m < 256 ^ k) : be (encB m k) = m := by rw [be_encB', Nat.mod_eq_of_lt h]
theorem rec_take {b r : List UInt8} : (recB b ++ r).take 3 = encB b.length 3 := by
  unfold recB
  rw [List.append_assoc, List.append_assoc, List.take_append_of_le_length (by rw [encB_len]; omega), List.take_of_length_le (by rw [encB_len]; omega)]
theorem rec_mid {b r : List UInt8} : ((recB b ++ r).drop 3).take 3 = encB (b.length ^^^ 16777215) 3 := by
  unfold recB
  rw [List.append_assoc, List.append_assoc, List.drop_append_of_le_length (by rw [encB_len]; omega), List.drop_of_length_le (by rw [encB_len]; omega), List.nil_append, List.take_append_of_le_length (by rw [encB_len]; omega), List.take_of_length_le (by rw [encB_len]; omega)]
theorem rec_drop {b r : List UInt8} : (recB b ++ r).drop 6 = b ++ r := by
  unfold recB
  have e : (encB b.length 3 ++ encB (b.length ^^^ 16777215) 3).length = 6 := by rw [List.length_append, encB_len, encB_len]
  rw [List.append_assoc (encB b.length 3 ++ encB (b.length ^^^ 16777215) 3), ← e, List.drop_left]
theorem lenF_rec {b r : List UInt8} (hb : b.length ≤ 1048576) : lenF (recB b ++ r) = (b.length, true) := by
  unfold lenF
  have hl : (recB b ++ r).length = 6 + b.length + r.length := by rw [List.length_append, recB_len]
  have hx : b.length ^^^ 16777215 < 16777216 := by rw [xor24 (by omega)]; omega
  rw [if_neg (by omega), rec_take, rec_mid, be_encB (show b.length < 256 ^ 3 by omega), be_encB (show b.length ^^^ 16777215 < 256 ^ 3 from hx)]
  rw [← Nat.xor_assoc, Nat.xor_self, Nat.zero_xor]
  simp [hb]
theorem allG_rec {b r : List UInt8} (hb : b.length ≤ 1048576) (k : Nat) : allG (k + 1) (recB b ++ r) = (b :: (allG k r).1, 6 + b.length + (allG k r).2.1, (allG k r).2.2) := by
  have hl : (recB b ++ r).length = 6 + b.length + r.length := by rw [List.length_append, recB_len]
  rw [allG]
  simp only [lenF_rec hb]
  rw [if_neg (by rintro (q | ⟨_, q⟩) <;> omega), if_neg (by decide), rec_drop]
  have e1 : (b ++ r).take b.length = b := List.take_left
  have e2 : (recB b ++ r).drop (6 + b.length) = r := by rw [← List.drop_drop, rec_drop, List.drop_left]
  rw [e1, e2]
theorem allG_nil (k : Nat) : allG k [] = ([], 0, true) := by
  cases k with
  | zero => rfl
  | succ k => rw [allG, if_pos (.inl (by simp))]
theorem allG_one {b : List UInt8} (hb : b.length ≤ 1048576) (k : Nat) : allG (k + 1) (recB b) = ([b], 6 + b.length, true) := by
  have := allG_rec (r := []) hb k
  rw [List.append_nil, allG_nil] at this
  exact this
theorem nums_flat : ∀ {L : List Int} {k : Nat}, L.length = k → (∀ x ∈ L, 0 ≤ x ∧ x < 16777216) → nums k (L.flatMap encI) = L
  | [], k, h, _ => by subst h; rfl
  | x :: L, k, h, hx => by
    subst h
    have h0 := hx x (List.mem_cons_self ..)
    have hl : (encI x).length = 3 := encB_len _ _
    rw [List.length_cons, nums, List.flatMap_cons]
    have e1 : (encI x ++ L.flatMap encI).take 3 = encI x := by rw [← hl, List.take_left]
    have e2 : (encI x ++ L.flatMap encI).drop 3 = L.flatMap encI := by rw [← hl, List.drop_left]
    rw [e1, e2, nums_flat rfl (fun y hy => hx y (List.mem_cons_of_mem _ hy))]
    have e3 : (be (encI x) : Int) = x := by
      unfold encI
      rw [be_encB (show x.toNat < 256 ^ 3 by omega)]
      omega
    rw [e3]
theorem decP_enc {l : List Int} {w n : Int} (hm : MayP l w n) : decP (encM l w n) = some (l, w, n) := by
  have hl := hm.len; have h0 := hm.w0; have h1 := hm.wn; have h2 := hm.top
  unfold decP
  have e0 : ((encM l w n).getD 0 0).toNat = l.length := by
    unfold encM
    rw [List.getD_cons_zero, UInt8.toNat_ofNat']
    omega
  have e1 : (encM l w n).drop 1 = (l ++ [w, n]).flatMap encI := rfl
  rw [e0, e1, nums_flat (by simp) (fun x hx => by
    rcases List.mem_append.1 hx with hx | hx
    · have := hm.all x hx; omega
    · simp at hx; omega)]
  rw [if_neg (by rw [encM_len]; omega)]
  have e2 : (l ++ [w, n]).take l.length = l := List.take_left
  have e3 : (l ++ [w, n]).getD l.length 0 = w := by simp
  have e4 : (l ++ [w, n]).getD (l.length + 1) 0 = n := by simp
  rw [e2, e3, e4, mayF_iff.2 hm]
  rfl
theorem readF_rec {l : List Int} {w n : Int} (hm : MayP l w n) : readF (some (recB (encM l w n))) = (0, some (l, w, n)) := by
  have h1 := encM_le hm
  unfold readF
  simp only
  rw [allG_one (by omega)]
  simp only
  rw [recB_len, if_neg (by simp), List.getD_cons_zero, decP_enc hm]
end Am
end Go.Proofs.Ythgcdoahoechhaa
