/- A disk that has one file and on which power goes. -/
import Derived.Test.YthgcdoahoechhaaMM
set_option linter.unusedVariables false
set_option linter.unusedSimpArgs false
namespace Go.Proofs.Ythgcdoahoechhaa
namespace Am
open Go.RowKit
set_option maxRecDepth 100000
section
variable {s : List UInt8} {L a : Int} {dn : Bool} {b : List UInt8} {sy : Nat}
theorem W1.whole' {ls : List (List EM)} (h1 : ∀ l ∈ ls, mayB l = true ∧ nrm l) (h2 : ∀ l ∈ ls, (batB l).length ≤ 1048576) : openF (W1 s L a dn (laidB ls) sy) s = (.ok ls, W1 s L a dn (laidB ls) sy) := by
  obtain ⟨m, k1, k2, k3, k4⟩ := allG_pre ((laidB ls).length + 1) (ls := ls) (p := laidB ls) (q := []) h2 (by simp) (by omega)
  have hm : m = ls.length := by have := k4 ls.length (Nat.le_refl _) (by rw [List.take_length]; exact Nat.le_refl _); omega
  subst hm
  rw [List.take_length] at k2
  unfold openF
  rw [W1.begin_]
  simp only
  unfold Am.cutF
  rw [k2]
  simp only
  rw [if_neg (Nat.lt_irrefl _), allE_bats h1]
  rfl
theorem W1.cnt (ha : 0 ≤ a) (hd : dn = true → a = 0) : ∃ a' dn', (W1 s L a dn b sy).count = W1 s L a' dn' b sy ∧ 0 ≤ a' ∧ (dn' = true → a' = 0) ∧ (dn = true → dn' = true) := by
  unfold MD.count
  by_cases h : 0 < (W1 s L a dn b sy).armed
  · rw [if_pos h]
    have h : 0 < a := h
    refine ⟨a - 1, a - 1 == 0, rfl, by omega, fun q => by simpa using q, fun q => by have := hd q; omega⟩
  · rw [if_neg h]
    exact ⟨a, dn, rfl, ha, hd, fun q => q⟩
theorem W1.app (ha : 0 ≤ a) (hd : dn = true → a = 0) (R : List UInt8) : ∃ ec a' dn' b', (W1 s L a dn b sy).append s R = (ec, W1 s L a' dn' b' sy) ∧ 0 ≤ a' ∧ (dn' = true → a' = 0) ∧ b'.length ≤ b.length + R.length ∧
    ((ec = 0 ∧ dn' = false ∧ dn = false ∧ b' = b ++ R) ∨ (ec = 13 ∧ dn' = true) ∨ (ec = 13 ∧ dn' = false ∧ dn = false ∧ b' = b ∧ L < (b.length : Int) + R.length)) := by
  obtain ⟨a', dn', e, h1, h2, h3⟩ := W1.cnt (s := s) (L := L) (b := b) (sy := sy) ha hd
  unfold MD.append
  rw [W1.get, e]
  simp only
  by_cases hc : (W1 s L a dn b sy).down = true ∨ (W1 s L a dn b sy).limit - ((W1 s L a dn b sy).used : Int) < R.length
  · rw [if_pos hc, W1.used] at *
    refine ⟨13, a', dn', b, rfl, h1, h2, by omega, ?_⟩
    cases dn' with
    | true => exact .inr (.inl ⟨rfl, rfl⟩)
    | false =>
      refine .inr (.inr ⟨rfl, rfl, ?_, rfl, ?_⟩)
      · cases dn with
        | true => exact (h3 rfl).symm ▸ rfl
        | false => rfl
      · rcases hc with q | q
        · have q : dn = true := q
          have := h3 q
          cases this
        · have q : L - (b.length : Int) < R.length := q
          omega
  · rw [if_neg hc]
    have hdn : dn = false := by
      cases dn with
      | true => exact absurd (.inl rfl) hc
      | false => rfl
    cases dn' with
    | true => exact ⟨13, a', true, b ++ R, by simp [W1, setL], h1, h2, by simp, .inr (.inl ⟨rfl, rfl⟩)⟩
    | false => exact ⟨0, a', false, b ++ R, by simp [W1, setL], h1, h2, by simp, .inl ⟨rfl, rfl, hdn, rfl⟩⟩
theorem W1.arm {n : Int} (hn : 0 ≤ n) : (W1 s L a false b sy).arm n = W1 s L n false b sy := by
  unfold MD.arm
  rw [if_neg (by show ¬ (false = true); decide)]
  show W1 s L (max n 0) false b sy = _
  rw [Int.max_eq_left hn]
end
theorem Bats.sub {X : Type} {h : Hp X} {v : AV} {ls : List (List EM)} {F : Nat → Prop} (a : Bats h v ls F) {i : Nat} {l : List EM} (hi : ls[i]? = some l) : ∃ v', Bats h v' [l] F ∧
    ∀ {hh : Hp X} {e : En} {t : List AV} {x y z : Od}, x.ev e t = v → y.ev e t = .int .i64 (i : Int) → z.ev e t = .int .i64 ((i : Int) + 1) → (Mv.sl 1 x (some y) (some z) none).ev e t hh = some v' := by
  obtain ⟨cells, h1, h2, h3⟩ := a.out
  have hlt := (List.getElem?_eq_some_iff.1 hi).1
  obtain ⟨v', k1, k2, _, k4⟩ := h1.sl (lo := i) (hi := i + 1) (by omega) (by omega)
  obtain ⟨c, hc, ef⟩ := h3 i l hi
  have hcl := (List.getElem?_eq_some_iff.1 hc).1
  have e1 : (cells.drop (i * 1)).take ((i + 1 - i) * 1) = [c] := by
    rw [Nat.mul_one, Nat.mul_one, show i + 1 - i = 1 by omega, List.drop_eq_getElem_cons hcl]
    have := (List.getElem?_eq_some_iff.1 hc).2
    simp [this]
  rw [e1, show i + 1 - i = 1 by omega] at k1
  refine ⟨v', ⟨[c], k1, fun k q => h2 k (k2 k q), fun j x hj => ?_⟩, fun {hh e t x y z} hx hy hz => k4 hx (.inr ⟨y, _, rfl, hy⟩) (.inr ⟨z, _, rfl, by rw [hz]; rfl⟩)⟩
  cases j with
  | zero => simp at hj; subst hj; exact ⟨c, rfl, ef⟩
  | succ j => simp at hj
theorem empty_no : mayB [⟨[], [], false⟩] = false := by decide
end Am
end Go.Proofs.Ythgcdoahoechhaa
