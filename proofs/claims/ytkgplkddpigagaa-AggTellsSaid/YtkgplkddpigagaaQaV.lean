/- Layer 23: what laws lay: samples, series of series. -/
import Derived.Test.YtkgplkddpigagaaQaU
set_option linter.unusedVariables false
set_option linter.unusedSimpArgs false
namespace Go.Proofs.Ytkgplkddpigagaa
namespace Am
open Go.RowKit
set_option maxRecDepth 100000
section
variable {X : Type} {h : Hp X}
inductive SerL (h : Hp X) : List AV → List (List SM) → Prop
  | nil : SerL h [] []
  | cons {c : AV} {l : List SM} {cs : List AV} {ls : List (List SM)} (a : Ser h c l) (b : SerL h cs ls) : SerL h (c :: cs) (l :: ls)
theorem SerL.len {cs : List AV} {ls : List (List SM)} (a : SerL h cs ls) : cs.length = ls.length := by
  induction a with
  | nil => rfl
  | cons a b ih => simp [ih]
theorem SerL.at {cs : List AV} {ls : List (List SM)} (a : SerL h cs ls) : ∀ {i : Nat} {l : List SM}, ls[i]? = some l → ∃ c, cs[i]? = some c ∧ Ser h c l := by
  induction a with
  | nil => intro i l hi; simp at hi
  | cons a b ih =>
    intro i l hi
    cases i with
    | zero => simp at hi; subst hi; exact ⟨_, rfl, a⟩
    | succ i => simp at hi; obtain ⟨c, h1, h2⟩ := ih hi; exact ⟨c, by simpa using h1, h2⟩
theorem SerL.up {h' : Hp X} {cs : List AV} {ls : List (List SM)} (a : SerL h cs ls) (k : Keep NoB h h') : SerL h' cs ls := by
  induction a with
  | nil => exact .nil
  | cons a b ih => exact .cons (a.up k) ih
theorem SerL.sers {v : AV} {cs : List AV} {ls : List (List SM)} (a : SerL h cs ls) (r : RS h 1 v ls.length cs) (hl : ls.length ≤ 1000) : Sers h v ls := ⟨⟨cs, r, fun i l hi => a.at hi⟩, hl⟩
theorem ser_nil : Ser h .snil [] := ⟨⟨rfl, rfl⟩, by simp, fun s hs => by cases hs⟩
end
structure Smp (l : List SM) (st : List Int) (most : Nat) : Prop where
  right : RightS l
  small : ∀ s ∈ l, SmallQ s.q
  len : l.length ≤ most
  tm : l.map SM.t = tmsG 0 (st.take most)
section
variable {X : Type} {E : Nat → Option (Ent X)}
theorem smp_ok (hE : ∀ f e, E f = some e → e.plain) (T : QsT E) {h : Hp X} {v w : AV} {st vs : List Int} (a : Ints h v st) (b : Ints h w vs) {most : Nat} (hm : most ≤ 1000) :
    WF (lim E) 11 [v, w, .int .i64 most] h fun x h' => Keep NoB h h' ∧ ∃ l : List SM, Ser h' x l ∧ (∀ k, blk x k → h.n ≤ k) ∧ Smp l st most :=
  (samples_ok hE T a b hm).mono fun x h' ⟨k, l, hr, hb, ht, hs⟩ => by
    have hlt : (st.take most).length ≤ most := by rw [List.length_take]; omega
    obtain ⟨h1, h2⟩ := right_laid (by omega) ht hs
    exact ⟨k, l, ⟨hr, by omega, fun s hs' => ⟨by
      obtain ⟨i, hi⟩ := List.mem_iff_getElem?.1 hs'
      have := h1 i s hi
      have g0 := this.t0
      have g1 := this.t1
      exact ⟨by omega, by omega⟩, (hs s hs').i64⟩⟩, hb, ⟨h1, hs, by omega, ht⟩⟩
end
end Am
end Go.Proofs.Ytkgplkddpigagaa
