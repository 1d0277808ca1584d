/- Layer 23, plainly: series of the same times; parts, joined, are the whole. -/
import Derived.Test.YtkgplkddpigagaaQbP
import Derived.Test.YtkgplkddpigagaaQaV
set_option linter.unusedVariables false
set_option linter.unusedSimpArgs false
namespace Go.Proofs.Ytkgplkddpigagaa
namespace Am
open Go.RowKit
set_option maxRecDepth 100000
inductive ValL : List QQ → List Int → List Nat → Prop
  | nil : ValL [] [] []
  | cons {q : QQ} {z : Int} {b : Nat} {ql : List QQ} {zl : List Int} {bl : List Nat} (a : ValZ q z) (c : z.natAbs ≤ b) (t : ValL ql zl bl) : ValL (q :: ql) (z :: zl) (b :: bl)
theorem ValL.right {ql : List QQ} {zl : List Int} {bl : List Nat} (H : ValL ql zl bl) : ql.all rightF = true := by
  induction H with
  | nil => rfl
  | cons a c t ih => rw [List.all_cons, a.rf, ih]; rfl
structure SerZ (T : List Int) (l : List SM) (f : Int → Int) (b : Nat) : Prop where
  right : RightS l
  tm : l.map SM.t = T
  val : ∀ s ∈ l, ValZ s.q (f s.t) ∧ (f s.t).natAbs ≤ b
theorem SerZ.at {T : List Int} {l : List SM} {f : Int → Int} {b : Nat} (a : SerZ T l f b) {t : Int} (ht : t ∈ T) : ∃ q, atF l t = ((q, true), 0) ∧ ValZ q (f t) ∧ (f t).natAbs ≤ b := by
  rw [← a.tm, List.mem_map] at ht
  obtain ⟨s, hs, rfl⟩ := ht
  exact ⟨s.q, atF_own a.right hs, a.val s hs⟩
theorem SerZ.uniq {T : List Int} {l m : List SM} {f g : Int → Int} {b c : Nat} (a : SerZ T l f b) (d : SerZ T m g c) (h : ∀ t ∈ T, f t = g t) : l = m := by
  have hlen : l.length = m.length := by have h1 := congrArg List.length a.tm; have h2 := congrArg List.length d.tm; rw [List.length_map] at h1 h2; omega
  refine List.ext_getElem hlen fun i h1 h2 => ?_
  have e1 : (l[i]).t = (m[i]).t := by
    have := (List.getElem_map SM.t (l := l) (i := i) (h := by simpa using h1)).symm.trans ((by simp only [a.tm, d.tm] : (l.map SM.t)[i]'(by simpa using h1) = (m.map SM.t)[i]'(by simpa using h2)).trans (List.getElem_map SM.t (l := m) (i := i) (h := by simpa using h2)))
    exact this
  have v1 := (a.val _ (List.getElem_mem h1)).1
  have v2 := (d.val _ (List.getElem_mem h2)).1
  have ht : (l[i]).t ∈ T := by rw [← a.tm]; exact List.mem_map_of_mem (List.getElem_mem h1)
  rw [h _ ht, e1] at v1
  have e2 := v1.uniq v2
  generalize l[i] = p at *
  generalize m[i] = q at *
  obtain ⟨t, p⟩ := p
  obtain ⟨u, q⟩ := q
  simp only at e1 e2
  rw [e1, e2]
inductive SerZs (T : List Int) : List (List SM) → List (Int → Int) → List Nat → Prop
  | nil : SerZs T [] [] []
  | cons {l : List SM} {f : Int → Int} {b : Nat} {ls : List (List SM)} {fs : List (Int → Int)} {bs : List Nat} (a : SerZ T l f b) (c : SerZs T ls fs bs) : SerZs T (l :: ls) (f :: fs) (b :: bs)
theorem SerZs.at {T : List Int} {ls : List (List SM)} {fs : List (Int → Int)} {bs : List Nat} (H : SerZs T ls fs bs) {t : Int} (ht : t ∈ T) : ∃ ql, ValL ql (fs.map (· t)) bs ∧ ql.length = ls.length ∧ ∀ out, atsG t out ls = (out ++ ql, 0) := by
  induction H with
  | nil => exact ⟨[], .nil, rfl, fun out => by simp [atsG]⟩
  | cons a c ih =>
    obtain ⟨ql, h1, h2, h3⟩ := ih
    obtain ⟨q, g1, g2, g3⟩ := a.at ht
    refine ⟨q :: ql, .cons g2 g3 h1, by simp [h2], fun out => ?_⟩
    unfold atsG
    rw [g1]
    simp only [ne_eq, not_true_eq_false, if_false, if_true]
    rw [h3, List.append_assoc]
    rfl
theorem SerZs.right {T : List Int} {ls : List (List SM)} {fs : List (Int → Int)} {bs : List Nat} (H : SerZs T ls fs bs) : ∀ l ∈ ls, RightS l ∧ l.map SM.t = T := by
  induction H with
  | nil => intro l hl; cases hl
  | cons a c ih =>
    intro l hl
    rcases List.mem_cons.1 hl with rfl | hl
    · exact ⟨a.right, a.tm⟩
    · exact ih l hl
theorem SerZs.split {T : List Int} {ls : List (List SM)} {fs : List (Int → Int)} {bs : List Nat} (H : SerZs T ls fs bs) : ∀ c, SerZs T (ls.take c) (fs.take c) (bs.take c) ∧ SerZs T (ls.drop c) (fs.drop c) (bs.drop c) := by
  induction H with
  | nil => intro c; simp; exact .nil
  | cons a b ih =>
    intro c
    cases c with
    | zero => exact ⟨.nil, .cons a b⟩
    | succ c => exact ⟨.cons a (ih c).1, (ih c).2⟩
end Am
end Go.Proofs.Ytkgplkddpigagaa
