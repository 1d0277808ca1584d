/- Package frame: a record's head, and a record put behind others. Package frame: the records of a row of bytes. Package frame: bytes that are read, where they lack a panic. -/
import Derived.Test.YthgcdoahoechhaaMH
set_option linter.unusedVariables false
set_option linter.unusedSimpArgs false
namespace Go.Proofs.Ythgcdoahoechhaa
namespace Am
open Go.RowKit
set_option maxRecDepth 100000
section
variable {X : Type} {E : Nat → Option (Ent X)}
theorem Own1.trans {h h1 h2 : Hp X} {v w : AV} (a : Own1 h h1 v) (b : Own1 h1 h2 w) : Own1 h h2 w := ⟨a.1.trans b.1 (fun _ _ q => q), fun g hg => Nat.le_trans a.1.n (b.2 g hg)⟩
end
end Am
end Go.Proofs.Ythgcdoahoechhaa
namespace Go.Proofs.Ythgcdoahoechhaa
namespace Am
open Go.RowKit
set_option maxRecDepth 100000
section
variable {X : Type} {E : Nat → Option (Ent X)}
theorem RS.bytes {h : Hp X} {v : AV} {bs : List UInt8} (a : RS h 1 v bs.length (bs.map ub)) {lo hi : Nat} (h1 : lo ≤ hi) (h2 : hi ≤ bs.length) : ∃ v', RS h 1 v' ((bs.drop lo).take (hi - lo)).length (((bs.drop lo).take (hi - lo)).map ub) ∧ (∀ g, blk v' g → blk v g) ∧ (v ≠ .semp → v' ≠ .semp) ∧
    ∀ {hh : Hp X} {e : En} {t : List AV} {x : Od} {ol oh : Option Od}, x.ev e t = v → Bnd ol e t lo 0 → Bnd oh e t hi bs.length → (Mv.sl 1 x ol oh none).ev e t hh = some v' := by
  obtain ⟨v', k1, k2, k3, k4⟩ := a.sl h1 h2
  refine ⟨v', ?_, k2, k3, k4⟩
  have e1 : ((bs.map ub).drop (lo * 1)).take ((hi - lo) * 1) = ((bs.drop lo).take (hi - lo)).map ub := by rw [Nat.mul_one, Nat.mul_one, ← List.map_drop, ← List.map_take]
  have e2 : hi - lo = ((bs.drop lo).take (hi - lo)).length := by rw [List.length_take, List.length_drop]; omega
  rw [e1] at k1
  rw [← e2]
  exact k1
theorem ef_bs1' {e : En} {t : List AV} {h : Hp X} {x : Od} {c zero : AV} (hx : x.ev e t = c) (hc : cellsOf c = some [c]) (h1 : c.one = true) : (Ef.bslice 1 1 [zero] [(0, 1, x)]).ev e t h = some (.slice 1 h.n 0 1 (some 1), h.push (.rw [c])) := by
  have ho : allOne [c] = true := by
    unfold allOne
    cases c <;> first | (cases h1; done) | rfl
  have hf : fillA (rep [zero] 1) [(0, 1, c)] = some [c] := by
    simp only [fillA, rep, hc]
    rfl
  simp only [Ef.ev, List.map, hx]
  rw [hf]
  show (bif allOne [c] && Nat.beq 1 (1 * 1) && Nat.ble 1 maxLen then some (AV.slice 1 h.n 0 1 (some 1), h.push (.rw [c])) else none) = _
  rw [ho]
  rfl
theorem OS.one {h : Hp X} {z n : Nat} {v : AV} {cells : List AV} (a : OS h z v n cells) : cellsOf v = some [v] ∧ v.one = true := by
  cases v <;> first | exact a.elim | exact ⟨rfl, rfl⟩
end
end Am
end Go.Proofs.Ythgcdoahoechhaa
namespace Go.Proofs.Ythgcdoahoechhaa
namespace Am
open Go.RowKit
set_option maxRecDepth 100000
section
variable {X : Type} {E : Nat → Option (Ent X)}
theorem RS.one {h : Hp X} {z n : Nat} {v : AV} {cells : List AV} (a : RS h z v n cells) : cellsOf v = some [v] ∧ v.one = true := by
  cases v <;> first | exact a.elim | exact ⟨rfl, rfl⟩
structure Rdr (h : Hp X) (g m : Nat) (bs : List UInt8) : Prop where
  lt : g < h.n
  ok : ∃ bv, h.get g = some (.rw [bv]) ∧ RS h 1 bv bs.length (bs.map ub) ∧ bv ≠ .semp ∧ ∀ k, blk bv k → k ≠ g ∧ k < m
theorem Rdr.keep {S : Nat → Prop} {h h' : Hp X} {g m : Nat} {bs : List UInt8} (a : Rdr h g m bs) (k : Keep S h h') (hs : ∀ bv, h.get g = some (.rw [bv]) → ∀ j, blk bv j → ¬ S j) (hg : ¬ S g) : Rdr h' g m bs := by
  obtain ⟨lt, bv, h1, h2, h3, h4⟩ := a
  exact ⟨Nat.lt_of_lt_of_le lt k.n, bv, by rw [k.get g lt hg]; exact h1, h2.keep k (hs bv h1), h3, h4⟩
end
end Am
end Go.Proofs.Ythgcdoahoechhaa
