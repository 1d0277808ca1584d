/- The plain machine: two disks alike. -/
import Derived.Test.YtmfobcejnkakpaaAm28
import Derived.Test.YtmfobcejnkakpaaAm29
namespace Go.Proofs.Ytmfobcejnkakpaa
set_option linter.unusedVariables false
set_option linter.unusedSimpArgs false
namespace Am
open Go.RowKit

noncomputable def eqMF (a b : MF) : Bool := k_strEq a.name b.name && k_strEq a.b b.b && Nat.beq a.synced b.synced
noncomputable def eqMFs : List MF → List MF → Bool
  | [], [] => true
  | a :: l, b :: r => eqMF a b && eqMFs l r
  | _, _ => false
noncomputable def eqMD (a b : MD) : Bool := k_eqi a.limit b.limit && k_eqi a.armed b.armed && (a.down == b.down) && eqMFs a.fs b.fs
theorem eqMF_ok {a b : MF} (h : eqMF a b = true) : a = b := by
  obtain ⟨n, c, s⟩ := a
  obtain ⟨n', c', s'⟩ := b
  simp only [eqMF, Bool.and_eq_true, k_strEq_eq, beq_iff_eq] at h
  obtain ⟨⟨rfl, rfl⟩, h3⟩ := h
  rw [Nat.eq_of_beq_eq_true h3]
theorem eqMFs_ok : ∀ {l r : List MF}, eqMFs l r = true → l = r
  | [], [], _ => rfl
  | a :: l, b :: r, h => by
    simp only [eqMFs, Bool.and_eq_true] at h
    rw [eqMF_ok h.1, eqMFs_ok h.2]
  | [], _ :: _, h => by cases h
  | _ :: _, [], h => by cases h
theorem eqMD_ok (a b : MD) (h : eqMD a b = true) : a = b := by
  obtain ⟨l, m, d, f⟩ := a
  obtain ⟨l', m', d', f'⟩ := b
  simp only [eqMD, Bool.and_eq_true, k_eqi_eq, beq_iff_eq] at h
  obtain ⟨⟨⟨rfl, rfl⟩, rfl⟩, h4⟩ := h
  rw [eqMFs_ok h4]
end Am
end Go.Proofs.Ytmfobcejnkakpaa
