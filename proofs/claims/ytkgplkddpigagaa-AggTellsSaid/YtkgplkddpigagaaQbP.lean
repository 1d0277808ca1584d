/- Layer 23, plainly: rational numbers over one denominator; folds of them; parts of a whole. -/
import Derived.Test.YtkgplkddpigagaaQaU
set_option linter.unusedVariables false
set_option linter.unusedSimpArgs false
namespace Go.Proofs.Ytkgplkddpigagaa
namespace Am
open Go.RowKit
set_option maxRecDepth 100000
theorem low_uniq {a b c d : Nat} (hb : 0 < b) (hd : 0 < d) (h1 : Nat.gcd a b = 1) (h2 : Nat.gcd c d = 1) (h : a * d = c * b) : a = c ∧ b = d := by
  have e1 : b ∣ d := by
    have : b ∣ a * d := ⟨c, by rw [h, Nat.mul_comm]⟩
    exact Nat.Coprime.dvd_of_dvd_mul_left (Nat.coprime_comm.1 h1) this
  have e2 : d ∣ b := by
    have : d ∣ c * b := ⟨a, by rw [← h, Nat.mul_comm]⟩
    exact Nat.Coprime.dvd_of_dvd_mul_left (Nat.coprime_comm.1 h2) this
  have e3 := Nat.dvd_antisymm e1 e2
  subst e3
  exact ⟨Nat.eq_of_mul_eq_mul_right hb h, rfl⟩
theorem rightQ_uniq {p q : QQ} (a : RightQ p) (b : RightQ q) (h : p.1 * q.2 = q.1 * p.2) : p = q := by
  obtain ⟨n, d⟩ := p
  obtain ⟨m, e⟩ := q
  obtain ⟨a1, a2, a3, a4, a5⟩ := a
  obtain ⟨b1, b2, b3, b4, b5⟩ := b
  simp only at *
  unfold gq at a5 b5
  have h' : n.natAbs * e.natAbs = m.natAbs * d.natAbs := by rw [← Int.natAbs_mul, ← Int.natAbs_mul, h]
  obtain ⟨e1, e2⟩ := low_uniq (by omega) (by omega) a5 b5 h'
  have e2 : d = e := by omega
  subst e2
  have : n = m := Int.eq_of_mul_eq_mul_right (by omega) h
  rw [this]
structure NewQ (n d : Int) (q : QQ) : Prop where
  eq : newF n d = (q, 0)
  right : RightQ q
  val : q.1 * d = n * q.2
  n : q.1.natAbs ≤ n.natAbs
  d : q.2 ≤ d
theorem newF_any {n d : Int} (hd : 0 < d) (h1 : n.natAbs / gq n d ≤ maxN) (h2 : d.natAbs / gq n d ≤ maxN) : ∃ q, NewQ n d q := by
  have hg : 0 < gq n d := Nat.gcd_pos_of_pos_right _ (by omega)
  have hgn : gq n d ∣ n.natAbs := Nat.gcd_dvd_left ..
  have hgd : gq n d ∣ d.natAbs := Nat.gcd_dvd_right ..
  have hq : 0 < d.natAbs / gq n d := Nat.div_pos (Nat.le_of_dvd (by omega) hgd) hg
  have e1 : n.natAbs / gq n d * gq n d = n.natAbs := Nat.div_mul_cancel hgn
  have e2 : d.natAbs / gq n d * gq n d = d.natAbs := Nat.div_mul_cancel hgd
  have hc : Nat.gcd (n.natAbs / gq n d) (d.natAbs / gq n d) = 1 := Nat.coprime_div_gcd_div_gcd hg
  have l1 := Nat.div_le_self n.natAbs (gq n d)
  have l2 := Nat.div_le_self d.natAbs (gq n d)
  have hs : decide (d < 0) = false := decide_eq_false (by omega)
  have en : newF n d = ((if decide (n < 0) = false then ((n.natAbs / gq n d : Nat) : Int) else -((n.natAbs / gq n d : Nat) : Int), ((d.natAbs / gq n d : Nat) : Int)), 0) := by
    unfold newF
    rw [if_neg (by omega), if_neg (by omega), hs]
  generalize n.natAbs / gq n d = A at *
  generalize d.natAbs / gq n d = B at *
  generalize gq n d = g at *
  have hAB : (A : Int) * g = n.natAbs := by rw [← e1]; simp
  have hBg : (B : Int) * g = d := by have : d = (d.natAbs : Int) := by omega
                                     rw [this, ← e2]; simp
  by_cases h0 : n < 0
  · rw [decide_eq_true h0, if_neg (by decide)] at en
    refine ⟨(-(A : Int), (B : Int)), en, ⟨by simp only; omega, by simp only; omega, by simp only; omega, by simp only; omega, ?_⟩, ?_, ?_, ?_⟩
    · unfold gq; simp only [Int.natAbs_neg, Int.natAbs_natCast]; exact hc
    · show -(A : Int) * d = n * B
      have hn : n = -((A : Int) * g) := by omega
      rw [← hBg, hn, Int.neg_mul, Int.neg_mul]
      congr 1
      rw [Int.mul_assoc, Int.mul_comm (g : Int), Int.mul_comm (B : Int) g, Int.mul_comm (g : Int) B]
    · show (-(A : Int)).natAbs ≤ _
      omega
    · show (B : Int) ≤ d
      omega
  · rw [decide_eq_false h0, if_pos rfl] at en
    refine ⟨((A : Int), (B : Int)), en, ⟨by simp only; omega, by simp only; omega, by simp only; omega, by simp only; omega, ?_⟩, ?_, ?_, ?_⟩
    · unfold gq; simp only [Int.natAbs_natCast]; exact hc
    · show (A : Int) * d = n * B
      have hn : n = (A : Int) * g := by omega
      rw [← hBg, hn, Int.mul_assoc, Int.mul_comm (g : Int), Int.mul_comm (B : Int) g, Int.mul_comm (g : Int) B]
    · show (A : Int).natAbs ≤ _
      omega
    · show (B : Int) ≤ d
      omega
theorem newF_fit {n d : Int} (hd : 0 < d) (h1 : n.natAbs ≤ maxN) (h2 : d ≤ maxN) : ∃ q, NewQ n d q :=
  newF_any hd (Nat.le_trans (Nat.div_le_self ..) h1) (Nat.le_trans (Nat.div_le_self ..) (by omega))
theorem newF_like {n d : Int} {q : QQ} (hd : 0 < d) (hq : RightQ q) (h : n * q.2 = q.1 * d) : newF n d = (q, 0) := by
  have hg : 0 < gq n d := Nat.gcd_pos_of_pos_right _ (by omega)
  have hgn : gq n d ∣ n.natAbs := Nat.gcd_dvd_left ..
  have hgd : gq n d ∣ d.natAbs := Nat.gcd_dvd_right ..
  have hp : 0 < d.natAbs / gq n d := Nat.div_pos (Nat.le_of_dvd (by omega) hgd) hg
  have e1 : n.natAbs / gq n d * gq n d = n.natAbs := Nat.div_mul_cancel hgn
  have e2 : d.natAbs / gq n d * gq n d = d.natAbs := Nat.div_mul_cancel hgd
  have hc : Nat.gcd (n.natAbs / gq n d) (d.natAbs / gq n d) = 1 := Nat.coprime_div_gcd_div_gcd hg
  have h' : n.natAbs * q.2.natAbs = q.1.natAbs * d.natAbs := by rw [← Int.natAbs_mul, ← Int.natAbs_mul, h]
  have hq2 := hq.cop
  unfold gq at hq2
  have h3 : n.natAbs / gq n d * q.2.natAbs = q.1.natAbs * (d.natAbs / gq n d) := by
    refine Nat.eq_of_mul_eq_mul_right hg ?_
    rw [Nat.mul_right_comm, e1, Nat.mul_assoc, e2, h']
  have hp2 := hq.pos
  have ht := hq.top
  have hn0 := hq.n0
  have hn1 := hq.n1
  obtain ⟨g1, g2⟩ := low_uniq hp (by omega) hc hq2 h3
  obtain ⟨q', hq'⟩ := newF_any hd (n := n) (by rw [g1]; omega) (by rw [g2]; omega)
  rw [hq'.eq, rightQ_uniq hq'.right hq (by
    have hv := hq'.val
    refine Int.eq_of_mul_eq_mul_right (show d ≠ 0 by omega) ?_
    rw [Int.mul_right_comm, hv, Int.mul_right_comm, h, Int.mul_right_comm])]
def DD : Int := 27720
structure ValZ (q : QQ) (z : Int) : Prop where
  right : RightQ q
  val : q.1 * DD = z * q.2
theorem ValZ.rf {q : QQ} {z : Int} (a : ValZ q z) : rightF q = true := right_iff.2 a.right
theorem val_make {z : Int} (h : z.natAbs ≤ maxN) : ∃ q, ValZ q z := by
  obtain ⟨q, hq⟩ := newF_fit (n := z) (d := DD) (by decide) h (by decide)
  exact ⟨q, hq.right, hq.val⟩
theorem ValZ.uniq {p q : QQ} {z : Int} (a : ValZ p z) (b : ValZ q z) : p = q := by
  refine rightQ_uniq a.right b.right ?_
  refine Int.eq_of_mul_eq_mul_right (show DD ≠ 0 by decide) ?_
  have h1 := a.val
  have h2 := b.val
  rw [Int.mul_right_comm, h1, Int.mul_right_comm q.1, h2, Int.mul_right_comm]
theorem ValZ.add {p q : QQ} {y z : Int} (a : ValZ p y) (b : ValZ q z) (h : (y + z).natAbs ≤ maxN) : ∃ r, addF p q = (r, 0) ∧ ValZ r (y + z) := by
  obtain ⟨r, hr⟩ := val_make h
  refine ⟨r, ?_, hr⟩
  unfold addF
  rw [a.rf, b.rf]
  simp only [Bool.and_self, if_true]
  have p1 := a.right.pos
  have p2 := b.right.pos
  refine newF_like (Int.mul_pos p1 p2) hr.right ?_
  have h1 := a.val
  have h2 := b.val
  have h3 := hr.val
  refine Int.eq_of_mul_eq_mul_right (show DD ≠ 0 by decide) ?_
  have e1 : (p.1 * q.2 + q.1 * p.2) * r.2 * DD = (p.1 * DD) * q.2 * r.2 + (q.1 * DD) * p.2 * r.2 := by
    rw [Int.add_mul, Int.add_mul]
    congr 1
    · rw [Int.mul_right_comm, Int.mul_right_comm p.1]
    · rw [Int.mul_right_comm, Int.mul_right_comm q.1]
  have e2 : r.1 * (p.2 * q.2) * DD = (r.1 * DD) * (p.2 * q.2) := Int.mul_right_comm ..
  rw [e1, e2, h1, h2, h3, ← Int.add_mul, Int.mul_right_comm z, ← Int.add_mul, ← Int.add_mul]
  generalize y + z = u
  rw [Int.mul_assoc u, Int.mul_right_comm]
theorem ValZ.cmp {p q : QQ} {y z : Int} (a : ValZ p y) (b : ValZ q z) : cmpF p q = if y < z then -1 else if y = z then 0 else 1 := by
  unfold cmpF
  rw [a.rf, b.rf]
  simp only [Bool.true_eq_false, false_and, if_false]
  unfold cmpQ
  have p1 := a.right.pos
  have p2 := b.right.pos
  have h1 := a.val
  have h2 := b.val
  have key : ∀ u v : Int, u < v ↔ u * DD < v * DD := fun u v => ⟨fun h => Int.mul_lt_mul_of_pos_right h (by decide), fun h => Int.lt_of_mul_lt_mul_right h (by decide)⟩
  have e1 : p.1 * q.2 * DD = y * (p.2 * q.2) := by rw [Int.mul_right_comm, h1, Int.mul_assoc]
  have e2 : q.1 * p.2 * DD = z * (p.2 * q.2) := by rw [Int.mul_right_comm, h2, Int.mul_assoc, Int.mul_comm q.2]
  have hlt : p.1 * q.2 < q.1 * p.2 ↔ y < z := by
    rw [key, e1, e2]
    exact ⟨fun h => Int.lt_of_mul_lt_mul_right h (Int.le_of_lt (Int.mul_pos p1 p2)), fun h => Int.mul_lt_mul_of_pos_right h (Int.mul_pos p1 p2)⟩
  have heq : p = q ↔ y = z := by
    constructor
    · intro h
      subst h
      have : y * p.2 = z * p.2 := by rw [← h1, ← h2]
      exact Int.eq_of_mul_eq_mul_right (by omega) this
    · intro h
      subst h
      exact a.uniq b
  by_cases c1 : y < z
  · rw [if_pos c1, if_pos (hlt.2 c1)]
  · rw [if_neg c1, if_neg (fun h => c1 (hlt.1 h))]
    by_cases c2 : y = z
    · rw [if_pos c2, if_pos (heq.2 c2)]
    · rw [if_neg c2, if_neg (fun h => c2 (heq.1 h))]
end Am
end Go.Proofs.Ytkgplkddpigagaa
