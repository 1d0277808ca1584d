/- Layer 23, plainly: times of series, values at their own times; small numbers; one series alone, and with itself. -/
import Derived.Test.YtkgplkddpigagaaQaT
set_option linter.unusedVariables false
set_option linter.unusedSimpArgs false
namespace Go.Proofs.Ytkgplkddpigagaa
namespace Am
open Go.RowKit
set_option maxRecDepth 100000
theorem rise_uniq : ∀ {a b : List Int}, a.Pairwise (· < ·) → b.Pairwise (· < ·) → (∀ x, x ∈ a ↔ x ∈ b) → a = b
  | [], b, _, _, h => (List.eq_nil_iff_forall_not_mem.2 fun x hx => by have := (h x).2 hx; simp at this).symm
  | x :: a, [], _, _, h => by have := (h x).1 (List.mem_cons_self ..); simp at this
  | x :: a, y :: b, ha, hb, h => by
    rw [List.pairwise_cons] at ha hb
    have e : x = y := by
      have h1 := (h x).1 (List.mem_cons_self ..)
      have h2 := (h y).2 (List.mem_cons_self ..)
      rcases List.mem_cons.1 h1 with h1 | h1
      · exact h1
      · rcases List.mem_cons.1 h2 with h2 | h2
        · exact h2.symm
        · have := ha.1 y h2; have := hb.1 x h1; omega
    subst e
    congr 1
    refine rise_uniq ha.2 hb.2 fun z => ⟨fun hz => ?_, fun hz => ?_⟩
    · have h1 := ha.1 z hz
      rcases List.mem_cons.1 ((h z).1 (List.mem_cons_of_mem _ hz)) with h2 | h2
      · omega
      · exact h2
    · have h1 := hb.1 z hz
      rcases List.mem_cons.1 ((h z).2 (List.mem_cons_of_mem _ hz)) with h2 | h2
      · omega
      · exact h2
theorem dd_rise : ∀ {l : List Int}, l.Pairwise (· ≤ ·) → (dd l).Pairwise (· < ·)
  | [], _ => List.Pairwise.nil
  | [a], _ => List.pairwise_singleton ..
  | a :: b :: l, h => by
    have ih := dd_rise (l := b :: l) (List.pairwise_cons.1 h).2
    show (if a = b then dd (b :: l) else a :: dd (b :: l)).Pairwise (· < ·)
    split
    · exact ih
    · rename_i hne
      refine List.pairwise_cons.2 ⟨fun x hx => ?_, ih⟩
      have hx' := dd_mem.1 hx
      have h1 := (List.pairwise_cons.1 h).1
      have h2 := (List.pairwise_cons.1 (List.pairwise_cons.1 h).2).1
      have hab := h1 b (List.mem_cons_self ..)
      rcases List.mem_cons.1 hx' with rfl | hx'
      · omega
      · have := h2 x hx'; omega
theorem timesF_rise (ls : List (List SM)) : (timesF ls).Pairwise (· < ·) := by
  refine dd_rise ?_
  have h := List.pairwise_mergeSort (le := fun x y : Int => decide (x ≤ y)) (fun a b c h1 h2 => by simp at *; omega) (fun a b => by simp; omega) (timesL ls)
  exact h.imp fun h => by simpa using h
theorem atF_own {l : List SM} (hr : RightS l) {s : SM} (hs : s ∈ l) : atF l s.t = ((s.q, true), 0) := by
  obtain ⟨i, hi⟩ := List.mem_iff_getElem?.1 hs
  have hil := (List.getElem?_eq_some_iff.1 hi).1
  have hp : plF l s.t = i := plF_eq (by omega) (fun j u hj hu => hr.lt hj hu hi) (fun j u hj hu => by
    by_cases hji : j = i
    · subst hji; rw [hi] at hu; cases hu; omega
    · have := hr.lt (show i < j by omega) hi hu; omega)
  unfold atF
  rw [if_pos hr]
  unfold atR
  rw [hp, hi]
  simp
theorem tmsG_b : ∀ {l : List Int} {t x : Int}, x ∈ tmsG t l → t ≤ x ∧ x ≤ t + 40 * (l.length : Int)
  | [], t, x, h => by simp [tmsG] at h
  | s :: r, t, x, h => by
    have hw := withinF_in (n := s) (lo := 1) (hi := 40) (by omega)
    rcases List.mem_cons.1 (show x ∈ t :: tmsG (t + withinF s 1 40) r from h) with h | h
    · subst h; rw [List.length_cons]; omega
    · have := tmsG_b h
      rw [List.length_cons]
      omega
theorem tmsG_rise : ∀ {l : List Int} {t : Int}, (tmsG t l).Pairwise (· < ·)
  | [], t => List.Pairwise.nil
  | s :: r, t => by
    have hw := withinF_in (n := s) (lo := 1) (hi := 40) (by omega)
    exact List.pairwise_cons.2 ⟨fun x hx => by have := tmsG_b hx; omega, tmsG_rise⟩
theorem right_laid {l : List SM} {st : List Int} (hl : st.length ≤ 1000) (ht : l.map SM.t = tmsG 0 st) (hq : ∀ s ∈ l, SmallQ s.q) : RightS l ∧ l.length = st.length := by
  have hlen : l.length = st.length := by have := congrArg List.length ht; rw [List.length_map, tmsG_len] at this; exact this
  refine ⟨fun i s hs => ?_, hlen⟩
  have hm : s.t ∈ tmsG 0 st := by rw [← ht]; exact List.mem_map_of_mem (List.mem_of_getElem? hs)
  have hb := tmsG_b hm
  refine ⟨by omega, by omega, (hq s (List.mem_of_getElem? hs)).right, fun p hi hp => ?_⟩
  have hr : (l.map SM.t).Pairwise (· < ·) := by rw [ht]; exact tmsG_rise
  rw [List.pairwise_iff_getElem] at hr
  have hil := (List.getElem?_eq_some_iff.1 hs)
  have hip := (List.getElem?_eq_some_iff.1 hp)
  obtain ⟨i1, i2⟩ := hil
  obtain ⟨p1, p2⟩ := hip
  have := hr (i - 1) i (by rw [List.length_map]; exact p1) (by rw [List.length_map]; exact i1) (by omega)
  rw [List.getElem_map, List.getElem_map, i2, p2] at this
  exact this
end Am
end Go.Proofs.Ytkgplkddpigagaa
