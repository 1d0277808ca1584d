/- Opening an argument that is a list of lists: its cells as they are read. -/
import Derived.Test.YtmfobcejnkakpaaRow
import Derived.Deep.Slices
namespace Go.Proofs.Ytmfobcejnkakpaa
set_option linter.unusedVariables false
set_option linter.unusedSimpArgs false
open Go.ChangeShapes Go.WideShapes Go.ChangeAt Go.RowKit Go.Deep

theorem list_of {α β : Type} {f : β → α} {q : β → Prop} : ∀ {xs : List α}, (∀ x ∈ xs, ∃ y, x = f y ∧ q y) → ∃ ys : List β, xs = ys.map f ∧ ∀ y ∈ ys, q y
  | [], _ => ⟨[], rfl, fun _ h => by cases h⟩
  | x :: xs, h => by
    obtain ⟨y, h1, h2⟩ := h x (List.mem_cons_self ..)
    obtain ⟨ys, h3, h4⟩ := list_of (xs := xs) fun z hz => h z (List.mem_cons_of_mem _ hz)
    refine ⟨y :: ys, by rw [h1, h3]; rfl, fun z hz => ?_⟩
    rcases List.mem_cons.1 hz with rfl | hz
    · exact h2
    · exact h4 z hz

section
variable {H : Type} {enc : TypeId × Value → H} {P : Program} {W : World}

theorem shape_of {t e : TypeId} {fuel : Nat} {v : Value} {x : DataW H × List MemPlace} (ht : P.underlying t = some (.slice e)) (h : DataW.trod enc P W 0 (fun _ => true) true fuel t [v] = some x) : ∃ a len cap, v = .slice a len cap := by
  rcases open_slice ht h with ⟨h0, _⟩ | ⟨a, len, cap, m, n, D, Pl, h0, _⟩
  · exact ⟨none, 0, 0, by simpa using h0⟩
  · exact ⟨some a, len, cap, by simpa using h0⟩

/-- a list whose elements take one cell each -/
theorem open_cells {t e : TypeId} (ht : P.underlying t = some (.slice e)) (hc : P.cellsOf e = 1) {v : Value} {d : DataW H} {ps : List MemPlace}
    (hok : ∃ a len cap, v = .slice a len cap) (h : DataW.Trod enc P W 0 (fun _ => true) true t v d ps) :
    ∃ (a : Option Addr) (vs : List Value) (c : Nat), v = .slice a vs.length c ∧ Rd W 1 (.slice a vs.length c) vs.length vs ∧ ∀ u ∈ vs, ∃ (n : Nat) (x : DataW H × List MemPlace), DataW.trod enc P W 0 (fun _ => true) true n e [u] = some x := by
  obtain ⟨a0, len, cap, rfl⟩ := hok
  obtain ⟨fuel, hf⟩ := h
  rcases open_slice1 ht hc hf with ⟨hcs, _⟩ | ⟨a, len', cap', m, n, V, D, Pl, hcs, _, hl, hm, hmm, _, hx⟩
  · simp [Value.cells] at hcs
    obtain ⟨rfl, rfl, rfl⟩ := hcs
    exact ⟨none, [], 0, rfl, ⟨rfl, by unfold maxLen; simp, none, 0, rfl, Nat.le_refl _, by unfold maxLen; simp, (fun _ => ⟨rfl, rfl⟩), (fun _ h => by cases h)⟩, fun _ h => by cases h⟩
  · simp [Value.cells] at hcs
    obtain ⟨rfl, rfl, rfl⟩ := hcs
    have hlm : len ≤ m := by rw [hmm]; split <;> omega
    refine ⟨some a, (List.range len).map V, cap, by simp, ⟨by simp, by simp; omega, some a, cap, rfl, by simpa using hl, hm, (fun h => by cases h), fun ad had => ?_⟩, fun u hu => ?_⟩
    · cases had
      refine ⟨fun h0 => ?_, fun j u hu => ?_⟩
      · simp at h0
        have := (hx 0 (by omega)).1
        have h1 : a.add 0 = a := by simp [Addr.add]
        rw [h1] at this
        exact World.cell?_spot this
      · simp [List.getElem?_map] at hu
        obtain ⟨i, hi, rfl⟩ := hu
        obtain ⟨hj, rfl⟩ := List.getElem?_eq_some_iff.1 hi
        simp at hj ⊢
        exact (hx j (by omega)).1
    · obtain ⟨i, hi, rfl⟩ := List.mem_map.1 hu
      have hi := List.mem_range.1 hi
      obtain ⟨_, h2⟩ := hx i (by omega)
      exact ⟨n, _, h2⟩

abbrev Row3 := Option Addr × Bs × Nat
def rowV (r : Row3) : Value := .slice r.1 r.2.1.length r.2.2
def RowIn (w : World) (r : Row3) : Prop := Rd w 1 (rowV r) r.2.1.length (r.2.1.map bv)
/-- a list of lists of bytes -/
theorem open_rows {t e q : TypeId} (ht : P.underlying t = some (.slice e)) (he : P.underlying e = some (.slice q)) (hq : P.underlying q = some (.int .u8)) (ce : P.cellsOf e = 1) (cq : P.cellsOf q = 1) {v : Value} {d : DataW H} {ps : List MemPlace}
    (hok : ∃ a len cap, v = .slice a len cap) (h : DataW.Trod enc P W 0 (fun _ => true) true t v d ps) :
    ∃ (a : Option Addr) (rs : List Row3) (c : Nat), v = .slice a rs.length c ∧ Rd W 1 (.slice a rs.length c) rs.length (rs.map rowV) ∧ ∀ r ∈ rs, RowIn W r := by
  obtain ⟨a, vs, c, hv, hr, hx⟩ := open_cells ht ce hok h
  obtain ⟨rs, rfl, h2⟩ := list_of (f := rowV) (q := RowIn W) (xs := vs) fun u hu => by
    obtain ⟨fuel, ⟨d, ps⟩, hf⟩ := hx u hu
    obtain ⟨a0, len, cap, rfl⟩ := shape_of he hf
    obtain ⟨a, l, c, hv, hr⟩ := open_bytes he hq cq ⟨_, _, _, rfl⟩ (show DataW.Trod enc P W 0 (fun _ => true) true e (.slice a0 len cap) d ps from ⟨fuel, hf⟩)
    exact ⟨(a, l, c), hv, hr⟩
  rw [List.length_map] at hv hr
  exact ⟨a, rs, c, hv, hr, h2⟩
end
end Go.Proofs.Ytmfobcejnkakpaa
