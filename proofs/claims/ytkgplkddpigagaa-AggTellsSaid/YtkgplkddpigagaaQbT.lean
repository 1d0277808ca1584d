/- Layer 23, plainly: lerps that are small; greatest ones. -/
import Derived.Test.YtkgplkddpigagaaQbQ
set_option linter.unusedVariables false
set_option linter.unusedSimpArgs false
namespace Go.Proofs.Ytkgplkddpigagaa
namespace Am
open Go.RowKit
set_option maxRecDepth 100000
theorem plF_spec {l : List SM} (hr : RightS l) (t : Int) : (∀ (i : Nat) s, i < plF l t → l[i]? = some s → s.t < t) ∧ ∀ (i : Nat) s, plF l t ≤ i → l[i]? = some s → ¬ s.t < t := by
  have key : ∃ p, p ≤ l.length ∧ (∀ (i : Nat) s, i < p → l[i]? = some s → s.t < t) ∧ ∀ (i : Nat) s, p ≤ i → l[i]? = some s → ¬ s.t < t := by
    refine ⟨l.findIdx (fun s => decide (¬ s.t < t)), List.findIdx_le_length, fun i s hi hs => ?_, fun i s hi hs => ?_⟩
    · have := List.not_of_lt_findIdx hi
      obtain ⟨h1, h2⟩ := List.getElem?_eq_some_iff.1 hs
      simp [h2] at this
      omega
    · have hil := (List.getElem?_eq_some_iff.1 hs).1
      have hp : l.findIdx (fun s => decide (¬ s.t < t)) < l.length := by omega
      have h0 := List.findIdx_getElem (w := hp)
      simp only [decide_eq_true_eq] at h0
      rcases Nat.eq_or_lt_of_le hi with h | h
      · subst h
        rw [List.getElem?_eq_getElem hp] at hs
        cases hs
        exact h0
      · have := hr.lt h (List.getElem?_eq_getElem hp) hs
        omega
  obtain ⟨p, h1, h2, h3⟩ := key
  rw [plF_eq h1 h2 h3]
  exact ⟨h2, h3⟩
theorem new_one {n : Nat} (h0 : 0 < n) (h : n ≤ maxN) : newF n 1 = (((n : Int), 1), 0) := by
  have e : gq (n : Int) 1 = 1 := by unfold gq; simp
  unfold newF
  rw [if_neg (by decide), e, Nat.div_one, Nat.div_one, if_neg (by simp only [Int.natAbs_natCast]; simp only [maxN] at *; omega), decide_eq_false (by omega), decide_eq_false (by omega), if_pos rfl]
  rfl
end Am
end Go.Proofs.Ytkgplkddpigagaa
