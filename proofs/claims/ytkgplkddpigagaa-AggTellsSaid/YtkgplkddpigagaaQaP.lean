/- Rational numbers as the program has them, plainly. No program. -/
import Derived.Test.YtkgplkddpigagaaMA
set_option linter.unusedVariables false
set_option linter.unusedSimpArgs false
namespace Go.Proofs.Ytkgplkddpigagaa
namespace Am
set_option maxRecDepth 10000
abbrev maxN : Nat := 2147483647
abbrev QQ := Int × Int
def gq (n d : Int) : Nat := Nat.gcd n.natAbs d.natAbs
def newF (n d : Int) : QQ × Int :=
  if d = 0 then ((0, 0), 1)
  else if maxN < n.natAbs / gq n d ∨ maxN < d.natAbs / gq n d then ((0, 0), 23)
  else ((if decide (n < 0) = decide (d < 0) then ((n.natAbs / gq n d : Nat) : Int) else -((n.natAbs / gq n d : Nat) : Int), ((d.natAbs / gq n d : Nat) : Int)), 0)
def rightF (q : QQ) : Bool := decide (0 < q.2) && decide (newF q.1 q.2 = (q, 0))
def addF (a b : QQ) : QQ × Int := if rightF a && rightF b then newF (a.1 * b.2 + b.1 * a.2) (a.2 * b.2) else ((0, 0), 1)
def subF (a b : QQ) : QQ × Int := if rightF a && rightF b then newF (a.1 * b.2 - b.1 * a.2) (a.2 * b.2) else ((0, 0), 1)
def mulF (a b : QQ) : QQ × Int := if rightF a && rightF b then newF (a.1 * b.1) (a.2 * b.2) else ((0, 0), 1)
def divF (a b : QQ) : QQ × Int := if rightF a && rightF b then newF (a.1 * b.2) (a.2 * b.1) else ((0, 0), 1)
def cmpQ (a b : QQ) : Int := if a.1 * b.2 < b.1 * a.2 then -1 else if a = b then 0 else 1
structure RightQ (q : QQ) : Prop where
  pos : 0 < q.2
  top : q.2 ≤ maxN
  n0 : -(maxN : Int) ≤ q.1
  n1 : q.1 ≤ maxN
  cop : gq q.1 q.2 = 1
theorem right_iff {q : QQ} : rightF q = true ↔ RightQ q := by
  obtain ⟨n, d⟩ := q
  unfold rightF
  simp only [Bool.and_eq_true, decide_eq_true_eq]
  constructor
  · rintro ⟨h1, h2⟩
    unfold newF at h2
    have hg : 0 < gq n d := Nat.gcd_pos_of_pos_right _ (by omega)
    rw [if_neg (by omega)] at h2
    split at h2
    · simp at h2
    · rename_i h3
      simp only [Prod.mk.injEq, and_true] at h2
      obtain ⟨h4, h5⟩ := h2
      have e5 : d.natAbs / gq n d = d.natAbs := by omega
      have hgd : gq n d ∣ d.natAbs := Nat.gcd_dvd_right ..
      have hg1 : gq n d = 1 := by
        obtain ⟨k, hk⟩ := hgd
        rw [hk, Nat.mul_div_cancel_left _ hg] at e5
        have hk0 : 0 < k := by
          rcases Nat.eq_zero_or_pos k with h | h
          · subst h; omega
          · exact h
        have : gq n d * k = 1 * k := by omega
        exact Nat.eq_of_mul_eq_mul_right hk0 this
      rw [hg1, Nat.div_one, Nat.div_one] at h3
      exact ⟨h1, by simp only; omega, by simp only; omega, by simp only; omega, hg1⟩
  · rintro ⟨h1, h2, h3, h4, h5⟩
    simp only at h1 h2 h3 h4 h5
    refine ⟨h1, ?_⟩
    unfold newF
    rw [if_neg (by omega), h5, Nat.div_one, Nat.div_one, if_neg (by omega), decide_eq_false (show ¬ d < 0 by omega)]
    by_cases hn : n < 0
    · rw [decide_eq_true hn, if_neg (by decide)]
      congr 2 <;> omega
    · rw [decide_eq_false hn, if_pos rfl]
      congr 2 <;> omega
end Am
end Go.Proofs.Ytkgplkddpigagaa
