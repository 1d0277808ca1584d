/- Layer 23, plainly: lerps that are small; greatest ones. -/
import Derived.Test.YtkgplkddpigagaaQbQ
set_option linter.unusedVariables false
set_option linter.unusedSimpArgs false
namespace Go.Proofs.Ytkgplkddpigagaa
namespace Am
open Go.RowKit
set_option maxRecDepth 100000
theorem mul_b {a b : Int} {A B : Nat} (ha : a.natAbs ≤ A) (hb : b.natAbs ≤ B) : (a * b).natAbs ≤ A * B := by rw [Int.natAbs_mul]; exact Nat.mul_le_mul ha hb
theorem plF_spec {l : List SM} (hr : RightS l) (t : Int) : (∀ (i : Nat) s, i < plF l t → l[i]? = some s → s.t < t) ∧ ∀ (i : Nat) s, plF l t ≤ i → l[i]? = some s → ¬ s.t < t := by
  have key : ∃ p, p ≤ l.length ∧ (∀ (i : Nat) s, i < p → l[i]? = some s → s.t < t) ∧ ∀ (i : Nat) s, p ≤ i → l[i]? = some s → ¬ s.t < t := by
    refine ⟨l.findIdx (fun s => decide (¬ s.t < t)), List.findIdx_le_length, fun i s hi hs => ?_, fun i s hi hs => ?_⟩
    · have := List.not_of_lt_findIdx hi
      obtain ⟨h1, h2⟩ := List.getElem?_eq_some_iff.1 hs
      simp [h2] at this
      omega
    · have hil := (List.getElem?_eq_some_iff.1 hs).1
      have hp : l.findIdx (fun s => decide (¬ s.t < t)) < l.length := by omega
      have h0 := List.findIdx_getElem (w := hp)
      simp only [decide_eq_true_eq] at h0
      rcases Nat.eq_or_lt_of_le hi with h | h
      · subst h
        rw [List.getElem?_eq_getElem hp] at hs
        cases hs
        exact h0
      · have := hr.lt h (List.getElem?_eq_getElem hp) hs
        omega
  obtain ⟨p, h1, h2, h3⟩ := key
  rw [plF_eq h1 h2 h3]
  exact ⟨h2, h3⟩
theorem betF_fit {a b : SM} {t : Int} (ha : SmallQ a.q) (hb : SmallQ b.q) (h1 : a.t < t) (h2 : t < b.t) (h3 : b.t - a.t ≤ 400) : ∃ q, betF a b t = (q, 0) ∧ RightQ q := by
  have a1 := ha.n0
  have a2 := ha.n1
  have a3 := ha.d0
  have a4 := ha.d1
  have b1 := hb.n0
  have b2 := hb.n1
  have b3 := hb.d0
  have b4 := hb.d1
  have ra := ha.right
  have rb := hb.right
  unfold betF
  generalize a.q = p at *
  generalize b.q = r at *
  obtain ⟨q1, e1⟩ := newF_fit (n := r.1 * p.2 - p.1 * r.2) (d := r.2 * p.2) (Int.mul_pos (by omega) (by omega)) (by
    have m1 := mul_b (a := r.1) (b := p.2) (A := 60) (B := 12) (by omega) (by omega)
    have m2 := mul_b (a := p.1) (b := r.2) (A := 60) (B := 12) (by omega) (by omega)
    simp only [maxN]; omega) (by
    have m1 := mul_b (a := r.2) (b := p.2) (A := 12) (B := 12) (by omega) (by omega)
    simp only [maxN]; omega)
  have hsub : subF r p = (q1, 0) := by
    unfold subF
    rw [ra, rb]
    exact e1.eq
  obtain ⟨q2, e2⟩ := newF_fit (n := t - a.t) (d := b.t - a.t) (by omega) (by simp only [maxN]; omega) (by simp only [maxN]; omega)
  have n1 : q1.1.natAbs ≤ 1440 := by
    have m1 := mul_b (a := r.1) (b := p.2) (A := 60) (B := 12) (by omega) (by omega)
    have m2 := mul_b (a := p.1) (b := r.2) (A := 60) (B := 12) (by omega) (by omega)
    have := e1.n
    omega
  have d1 : q1.2.natAbs ≤ 144 := by
    have m1 := mul_b (a := r.2) (b := p.2) (A := 12) (B := 12) (by omega) (by omega)
    have := e1.d
    have := e1.right.pos
    omega
  have n2 : q2.1.natAbs ≤ 400 := by have := e2.n; omega
  have d2 : q2.2.natAbs ≤ 400 := by have := e2.d; have := e2.right.pos; omega
  have p1 := e1.right.pos
  have p2 := e2.right.pos
  have m3 := mul_b n1 n2
  have m4 := mul_b d1 d2
  have p3 := Int.mul_pos p1 p2
  obtain ⟨q3, e3⟩ := newF_fit (n := q1.1 * q2.1) (d := q1.2 * q2.2) p3 (by simp only [maxN]; omega) (by simp only [maxN]; omega)
  have hmul : mulF q1 q2 = (q3, 0) := by
    unfold mulF
    rw [right_iff.2 e1.right, right_iff.2 e2.right]
    exact e3.eq
  have n3 : q3.1.natAbs ≤ 576000 := by have := e3.n; omega
  have d3 : q3.2.natAbs ≤ 57600 := by have := e3.d; have := e3.right.pos; omega
  have p4 := e3.right.pos
  have m5 := mul_b (b := p.2) (B := 12) n3 (by omega)
  have m6 := mul_b (a := p.1) (A := 60) (by omega) d3
  have m7 := mul_b (b := p.2) (B := 12) d3 (by omega)
  obtain ⟨q4, e4⟩ := newF_fit (n := q3.1 * p.2 + p.1 * q3.2) (d := q3.2 * p.2) (Int.mul_pos p4 (by omega)) (by simp only [maxN]; omega) (by simp only [maxN]; omega)
  have hadd : addF q3 p = (q4, 0) := by
    unfold addF
    rw [right_iff.2 e3.right, ra]
    exact e4.eq
  refine ⟨q4, ?_, e4.right⟩
  rw [if_neg (by rw [ra, rb]; simp; omega), if_neg (by omega), if_neg (by omega), hsub, e2.eq]
  simp only [ne_eq, not_true_eq_false, if_false]
  rw [hmul]
  simp only [not_true_eq_false, if_false]
  exact hadd
theorem atF_fit {l : List SM} {st : List Int} {most : Nat} (hm : most ≤ 8) (a : Smp l st most) (t : Int) : ∃ q ok, atF l t = ((q, ok), 0) ∧ (ok = true → RightQ q) := by
  unfold atF
  rw [if_pos a.right]
  unfold atR
  cases hp : l[plF l t]? with
  | none => exact ⟨_, _, rfl, fun h => by cases h⟩
  | some s =>
    simp only
    by_cases c1 : s.t = t
    · rw [if_pos c1]
      exact ⟨_, _, rfl, fun _ => right_iff.1 (a.small s (List.mem_of_getElem? hp)).right⟩
    · rw [if_neg c1]
      by_cases c2 : plF l t = 0
      · rw [if_pos c2]
        exact ⟨_, _, rfl, fun h => by cases h⟩
      · rw [if_neg c2]
        have hil := (List.getElem?_eq_some_iff.1 hp).1
        obtain ⟨b, hb⟩ : ∃ b, l[plF l t - 1]? = some b := ⟨_, List.getElem?_eq_getElem (by omega)⟩
        rw [hb]
        simp only
        have hpl := plF_spec a.right t
        have h1 := hpl.1 _ b (by omega) hb
        have h2 := hpl.2 _ s (Nat.le_refl _) hp
        have htm : ∀ x ∈ l, 0 ≤ x.t ∧ x.t ≤ 320 := fun x hx => by
          have : x.t ∈ tmsG 0 (st.take most) := by rw [← a.tm]; exact List.mem_map_of_mem hx
          have hb := tmsG_b this
          rw [List.length_take] at hb
          omega
        have t1 := htm b (List.mem_of_getElem? hb)
        have t2 := htm s (List.mem_of_getElem? hp)
        obtain ⟨q, hq, hr⟩ := betF_fit (t := t) (a.small b (List.mem_of_getElem? hb)) (a.small s (List.mem_of_getElem? hp)) h1 (by omega) (by omega)
        rw [hq]
        exact ⟨q, _, rfl, fun _ => hr⟩
noncomputable def valsA (t : Int) : List (List SM) → List QQ
  | [] => []
  | l :: r => if (atF l t).1.2 = true then (atF l t).1.1 :: valsA t r else valsA t r
theorem atsG_vals {t : Int} : ∀ {ls : List (List SM)} {out : List QQ}, (∀ l ∈ ls, (atF l t).2 = 0) → atsG t out ls = (out ++ valsA t ls, 0)
  | [], out, _ => by simp [atsG, valsA]
  | l :: ls, out, h => by
    unfold atsG valsA
    rw [if_neg (by simp [h l (List.mem_cons_self ..)]), atsG_vals fun k hk => h k (List.mem_cons_of_mem _ hk)]
    by_cases c : (atF l t).1.2 = true
    · rw [if_pos c, if_pos c, List.append_assoc]; rfl
    · rw [if_neg c, if_neg c]
theorem valsA_snoc {t : Int} : ∀ {ls : List (List SM)} {l : List SM}, valsA t (ls ++ [l]) = valsA t ls ++ (if (atF l t).1.2 = true then [(atF l t).1.1] else [])
  | [], l => by simp [valsA]
  | k :: ls, l => by
    show (if (atF k t).1.2 = true then (atF k t).1.1 :: valsA t (ls ++ [l]) else valsA t (ls ++ [l])) = (if (atF k t).1.2 = true then (atF k t).1.1 :: valsA t ls else valsA t ls) ++ _
    rw [valsA_snoc]
    split <;> rfl
theorem valsA_right {t : Int} : ∀ {ls : List (List SM)}, (∀ l ∈ ls, ∃ s, Smp l s 8) → ∀ q ∈ valsA t ls, RightQ q
  | [], _, q, h => by cases h
  | l :: ls, hs, q, h => by
    obtain ⟨s, sm⟩ := hs l (List.mem_cons_self ..)
    obtain ⟨q', ok, e, hr⟩ := atF_fit (by omega) sm t
    have ih := valsA_right (t := t) (ls := ls) fun k hk => hs k (List.mem_cons_of_mem _ hk)
    unfold valsA at h
    rw [e] at h
    split at h
    · rename_i c
      rcases List.mem_cons.1 h with h | h
      · subst h; exact hr c
      · exact ih q h
    · exact ih q h
theorem valsA_len {t : Int} : ∀ {ls : List (List SM)}, (valsA t ls).length ≤ ls.length
  | [] => Nat.le_refl _
  | l :: ls => by
    have := valsA_len (t := t) (ls := ls)
    unfold valsA
    split
    · simp only [List.length_cons]; omega
    · simp only [List.length_cons]; omega
theorem valsA_some {t : Int} : ∀ {ls : List (List SM)} {l : List SM}, l ∈ ls → RightS l → (∃ s ∈ l, s.t = t) → valsA t ls ≠ []
  | k :: ls, l, hl, hr, ⟨s, hs, e⟩ => by
    unfold valsA
    rcases List.mem_cons.1 hl with h | h
    · subst h
      subst e
      rw [atF_own hr hs]
      simp
    · split
      · simp
      · exact valsA_some h hr ⟨s, hs, e⟩
theorem cmp_le {p q : QQ} (a : RightQ p) (b : RightQ q) : (0 < cmpF p q ↔ q.1 * p.2 < p.1 * q.2) := by
  unfold cmpF
  rw [right_iff.2 a, right_iff.2 b]
  simp only [Bool.true_eq_false, false_and, if_false]
  unfold cmpQ
  by_cases c1 : p.1 * q.2 < q.1 * p.2
  · rw [if_pos c1]; omega
  · rw [if_neg c1]
    by_cases c2 : p = q
    · subst c2; rw [if_pos rfl]; omega
    · rw [if_neg c2]
      have : p.1 * q.2 ≠ q.1 * p.2 := fun e => c2 (rightQ_uniq a b e)
      omega
theorem le_tr {p q r : QQ} (b : RightQ q) (a : RightQ p) (c : RightQ r) (h1 : p.1 * q.2 ≤ q.1 * p.2) (h2 : q.1 * r.2 ≤ r.1 * q.2) : p.1 * r.2 ≤ r.1 * p.2 := by
  have hp := a.pos
  have hq := b.pos
  have hr := c.pos
  refine Int.le_of_mul_le_mul_right (a := q.2) ?_ hq
  have e1 : p.1 * r.2 * q.2 = p.1 * q.2 * r.2 := Int.mul_right_comm ..
  have e2 : q.1 * p.2 * r.2 = q.1 * r.2 * p.2 := Int.mul_right_comm ..
  have e3 : r.1 * p.2 * q.2 = r.1 * q.2 * p.2 := Int.mul_right_comm ..
  have i1 := Int.mul_le_mul_of_nonneg_right h1 (Int.le_of_lt hr)
  have i2 := Int.mul_le_mul_of_nonneg_right h2 (Int.le_of_lt hp)
  omega
theorem goF_max : ∀ {l : List QQ} {a : QQ}, RightQ a → (∀ q ∈ l, RightQ q) → ∃ m, goF 3 a l = (m, 0) ∧ m ∈ a :: l ∧ ∀ q ∈ a :: l, q.1 * m.2 ≤ m.1 * q.2
  | [], a, ha, _ => ⟨a, rfl, List.mem_cons_self .., fun q hq => by simp at hq; subst hq; exact Int.le_refl _⟩
  | b :: l, a, ha, hl => by
    have hb := hl b (List.mem_cons_self ..)
    have hl' : ∀ q ∈ l, RightQ q := fun q hq => hl q (List.mem_cons_of_mem _ hq)
    have e : stepF 3 a b = (if 0 < cmpF b a then b else a, 0) := rfl
    have go : goF 3 a (b :: l) = goF 3 (if 0 < cmpF b a then b else a) l := by
      show (if (stepF 3 a b).2 ≠ 0 then ((0, 0), (stepF 3 a b).2) else goF 3 (stepF 3 a b).1 l) = _
      rw [e]; simp
    rw [go]
    by_cases c : 0 < cmpF b a
    · rw [if_pos c]
      have hc := (cmp_le hb ha).1 c
      obtain ⟨m, h1, h2, h3⟩ := goF_max hb hl'
      have hm : RightQ m := by rcases List.mem_cons.1 h2 with h | h; subst h; exact hb; exact hl' m h
      refine ⟨m, h1, List.mem_cons_of_mem _ h2, fun q hq => ?_⟩
      rcases List.mem_cons.1 hq with h | h
      · subst h; exact le_tr hb ha hm (by omega) (h3 b (List.mem_cons_self ..))
      · exact h3 q h
    · rw [if_neg c]
      have hc : b.1 * a.2 ≤ a.1 * b.2 := by
        have : ¬ a.1 * b.2 < b.1 * a.2 := fun q => c ((cmp_le hb ha).2 q)
        omega
      obtain ⟨m, h1, h2, h3⟩ := goF_max ha hl'
      have hm : RightQ m := by rcases List.mem_cons.1 h2 with h | h; subst h; exact ha; exact hl' m h
      refine ⟨m, h1, ?_, fun q hq => ?_⟩
      · rcases List.mem_cons.1 h2 with h | h
        · subst h; exact List.mem_cons_self ..
        · exact List.mem_cons_of_mem _ (List.mem_cons_of_mem _ h)
      · rcases List.mem_cons.1 hq with h | h
        · subst h; exact h3 q (List.mem_cons_self ..)
        · rcases List.mem_cons.1 h with h | h
          · subst h; exact le_tr ha hb hm hc (h3 a (List.mem_cons_self ..))
          · exact h3 q (List.mem_cons_of_mem _ h)
theorem all_rf {l : List QQ} (h : ∀ q ∈ l, RightQ q) : l.all rightF = true := by
  rw [List.all_eq_true]
  intro q hq
  exact right_iff.2 (h q hq)
theorem fold_max {l : List QQ} (hn : l ≠ []) (hr : ∀ q ∈ l, RightQ q) (hl : l.length ≤ 1000) : ∃ m, foldF 3 l = (m, 0) ∧ RightQ m ∧ m ∈ l ∧ ∀ q ∈ l, ¬ 0 < cmpF q m := by
  cases l with
  | nil => exact absurd rfl hn
  | cons a l =>
    obtain ⟨m, h1, h2, h3⟩ := goF_max (hr a (List.mem_cons_self ..)) fun q hq => hr q (List.mem_cons_of_mem _ hq)
    have hm := hr m h2
    refine ⟨m, ?_, hm, h2, fun q hq c => ?_⟩
    · show foldF1 3 a l = _
      obtain ⟨q, hq⟩ := newF_fit (n := (l.length + 1 : Nat)) (d := 1) (by omega) (by simp at hl; simp only [maxN]; omega) (by decide)
      unfold foldF1
      rw [all_rf hr, h1, hq.eq]
      simp
    · have := (cmp_le (hr q hq) hm).1 c
      have := h3 q hq
      omega
theorem goF_any {how : Int} (hh : how = 5) : ∀ {l : List QQ} {a : QQ}, goF how a l = (a, 0)
  | [], a => rfl
  | b :: l, a => by
    have e : stepF how a b = (a, 0) := by subst hh; rfl
    unfold goF
    rw [e]
    simp only [ne_eq, not_true_eq_false, if_false]
    exact goF_any hh
theorem new_one {n : Nat} (h0 : 0 < n) (h : n ≤ maxN) : newF n 1 = (((n : Int), 1), 0) := by
  have e : gq (n : Int) 1 = 1 := by unfold gq; simp
  unfold newF
  rw [if_neg (by decide), e, Nat.div_one, Nat.div_one, if_neg (by simp only [Int.natAbs_natCast]; simp only [maxN] at *; omega), decide_eq_false (by omega), decide_eq_false (by omega), if_pos rfl]
  rfl
theorem fold_cnt {l : List QQ} (hn : l ≠ []) (hr : ∀ q ∈ l, RightQ q) (hl : l.length ≤ 1000) : foldF 5 l = (((l.length : Int), 1), 0) := by
  cases l with
  | nil => exact absurd rfl hn
  | cons a l =>
    show foldF1 5 a l = _
    have hq := new_one (n := l.length + 1) (by omega) (by simp at hl; simp only [maxN]; omega)
    unfold foldF1
    rw [all_rf hr, goF_any rfl, hq]
    simp
end Am
end Go.Proofs.Ytkgplkddpigagaa
