/- Opening an argument that is a list of lists: its cells as they are read. -/
import Derived.Test.YtmfobcejnkakpaaRow
import Derived.Deep.Slices
import Derived.Deep.Fields
namespace Go.Proofs.Ytmfobcejnkakpaa
set_option linter.unusedVariables false
set_option linter.unusedSimpArgs false
open Go.ChangeShapes Go.WideShapes Go.ChangeAt Go.RowKit Go.Deep

theorem list_of {α β : Type} {f : β → α} {q : β → Prop} : ∀ {xs : List α}, (∀ x ∈ xs, ∃ y, x = f y ∧ q y) → ∃ ys : List β, xs = ys.map f ∧ ∀ y ∈ ys, q y
  | [], _ => ⟨[], rfl, fun _ h => by cases h⟩
  | x :: xs, h => by
    obtain ⟨y, h1, h2⟩ := h x (List.mem_cons_self ..)
    obtain ⟨ys, h3, h4⟩ := list_of (xs := xs) fun z hz => h z (List.mem_cons_of_mem _ hz)
    refine ⟨y :: ys, by rw [h1, h3]; rfl, fun z hz => ?_⟩
    rcases List.mem_cons.1 hz with rfl | hz
    · exact h2
    · exact h4 z hz

section
variable {H : Type} {enc : TypeId × Value → H} {P : Program} {W : World}

theorem shape_of {t e : TypeId} {fuel : Nat} {v : Value} {x : DataW H × List MemPlace} (ht : P.underlying t = some (.slice e)) (h : DataW.trod enc P W 0 (fun _ => true) true fuel t [v] = some x) : ∃ a len cap, v = .slice a len cap := by
  rcases open_slice ht h with ⟨h0, _⟩ | ⟨a, len, cap, m, n, D, Pl, h0, _⟩
  · exact ⟨none, 0, 0, by simpa using h0⟩
  · exact ⟨some a, len, cap, by simpa using h0⟩

/-- a list whose elements take one cell each -/
theorem open_cells {t e : TypeId} (ht : P.underlying t = some (.slice e)) (hc : P.cellsOf e = 1) {v : Value} {d : DataW H} {ps : List MemPlace}
    (hok : ∃ a len cap, v = .slice a len cap) (h : DataW.Trod enc P W 0 (fun _ => true) true t v d ps) :
    ∃ (a : Option Addr) (vs : List Value) (c : Nat), v = .slice a vs.length c ∧ Rd W 1 (.slice a vs.length c) vs.length vs ∧ ∀ u ∈ vs, ∃ (n : Nat) (x : DataW H × List MemPlace), DataW.trod enc P W 0 (fun _ => true) true n e [u] = some x := by
  obtain ⟨a0, len, cap, rfl⟩ := hok
  obtain ⟨fuel, hf⟩ := h
  rcases open_slice1 ht hc hf with ⟨hcs, _⟩ | ⟨a, len', cap', m, n, V, D, Pl, hcs, _, hl, hm, hmm, _, hx⟩
  · simp [Value.cells] at hcs
    obtain ⟨rfl, rfl, rfl⟩ := hcs
    exact ⟨none, [], 0, rfl, ⟨rfl, by unfold maxLen; simp, none, 0, rfl, Nat.le_refl _, by unfold maxLen; simp, (fun _ => ⟨rfl, rfl⟩), (fun _ h => by cases h)⟩, fun _ h => by cases h⟩
  · simp [Value.cells] at hcs
    obtain ⟨rfl, rfl, rfl⟩ := hcs
    have hlm : len ≤ m := by rw [hmm]; split <;> omega
    refine ⟨some a, (List.range len).map V, cap, by simp, ⟨by simp, by simp; omega, some a, cap, rfl, by simpa using hl, hm, (fun h => by cases h), fun ad had => ?_⟩, fun u hu => ?_⟩
    · cases had
      refine ⟨fun h0 => ?_, fun j u hu => ?_⟩
      · simp at h0
        have := (hx 0 (by omega)).1
        have h1 : a.add 0 = a := by simp [Addr.add]
        rw [h1] at this
        exact World.cell?_spot this
      · simp [List.getElem?_map] at hu
        obtain ⟨i, hi, rfl⟩ := hu
        obtain ⟨hj, rfl⟩ := List.getElem?_eq_some_iff.1 hi
        simp at hj ⊢
        exact (hx j (by omega)).1
    · obtain ⟨i, hi, rfl⟩ := List.mem_map.1 hu
      have hi := List.mem_range.1 hi
      obtain ⟨_, h2⟩ := hx i (by omega)
      exact ⟨n, _, h2⟩

abbrev Row3 := Option Addr × Bs × Nat
def rowV (r : Row3) : Value := .slice r.1 r.2.1.length r.2.2
def RowIn (w : World) (r : Row3) : Prop := Rd w 1 (rowV r) r.2.1.length (r.2.1.map bv)
/-- a list of lists of bytes -/
theorem open_rows {t e q : TypeId} (ht : P.underlying t = some (.slice e)) (he : P.underlying e = some (.slice q)) (hq : P.underlying q = some (.int .u8)) (ce : P.cellsOf e = 1) (cq : P.cellsOf q = 1) {v : Value} {d : DataW H} {ps : List MemPlace}
    (hok : ∃ a len cap, v = .slice a len cap) (h : DataW.Trod enc P W 0 (fun _ => true) true t v d ps) :
    ∃ (a : Option Addr) (rs : List Row3) (c : Nat), v = .slice a rs.length c ∧ Rd W 1 (.slice a rs.length c) rs.length (rs.map rowV) ∧ ∀ r ∈ rs, RowIn W r := by
  obtain ⟨a, vs, c, hv, hr, hx⟩ := open_cells ht ce hok h
  obtain ⟨rs, rfl, h2⟩ := list_of (f := rowV) (q := RowIn W) (xs := vs) fun u hu => by
    obtain ⟨fuel, ⟨d, ps⟩, hf⟩ := hx u hu
    obtain ⟨a0, len, cap, rfl⟩ := shape_of he hf
    obtain ⟨a, l, c, hv, hr⟩ := open_bytes he hq cq ⟨_, _, _, rfl⟩ (show DataW.Trod enc P W 0 (fun _ => true) true e (.slice a0 len cap) d ps from ⟨fuel, hf⟩)
    exact ⟨(a, l, c), hv, hr⟩
  rw [List.length_map] at hv hr
  exact ⟨a, rs, c, hv, hr, h2⟩

theorem flatten_at {α : Type} {z : Nat} (hz : 0 < z) : ∀ {vs : List (List α)}, (∀ c ∈ vs, c.length = z) → ∀ j, vs.flatten[j]? = (vs[j / z]?).bind fun c => c[j % z]?
  | [], _, j => by simp
  | c :: vs, h, j => by
    have hc := h c (List.mem_cons_self ..)
    rw [List.flatten_cons]
    by_cases hj : j < z
    · rw [List.getElem?_append_left (by omega), Nat.div_eq_of_lt hj, Nat.mod_eq_of_lt hj]; rfl
    · rw [List.getElem?_append_right (by omega), hc, flatten_at hz (fun x hx => h x (List.mem_cons_of_mem _ hx))]
      have e1 : j / z = (j - z) / z + 1 := by
        conv => lhs; rw [show j = (j - z) + z by omega]
        rw [Nat.add_div_right _ hz]
      have e2 : j % z = (j - z) % z := by
        conv => lhs; rw [show j = (j - z) + z by omega]
        rw [Nat.add_mod_right]
      rw [e1, e2]; rfl

/-- a list whose elements are structs of fields of one cell each -/
theorem open_structs {t e : TypeId} {fs : Array Field} (ht : P.underlying t = some (.slice e)) (hs : P.underlying e = some (.struct fs)) (hone : oneCellFields P fs = true) (hC : P.cellsOf e = fs.size) (hpos : 0 < fs.size) {v : Value} {d : DataW H} {ps : List MemPlace}
    (hok : ∃ a len cap, v = .slice a len cap) (h : DataW.Trod enc P W 0 (fun _ => true) true t v d ps) :
    ∃ (a : Option Addr) (vs : List (List Value)) (c : Nat), v = .slice a vs.length c ∧ Rd W fs.size (.slice a vs.length c) vs.length vs.flatten ∧
      ∀ cs ∈ vs, cs.length = fs.size ∧ ∀ (i : Nat) (f : Field), fs[i]? = some f → ∃ (n : Nat) (x : DataW H × List MemPlace), DataW.trod enc P W 0 (fun _ => true) true n f.type [cs.getD i undef] = some x := by
  obtain ⟨a0, len, cap, rfl⟩ := hok
  obtain ⟨fuel, hf⟩ := h
  rcases open_slice ht hf with ⟨hcs, _⟩ | ⟨a, len', cap', m, n, D, Pl, hcs, _, hl, hm, hmm, _, hx⟩
  · simp [Value.cells] at hcs
    obtain ⟨rfl, rfl, rfl⟩ := hcs
    exact ⟨none, [], 0, rfl, ⟨by simp, by unfold maxLen; simp, none, 0, rfl, Nat.le_refl _, by unfold maxLen; simp, (fun _ => ⟨rfl, rfl⟩), (fun _ h => by cases h)⟩, fun _ h => by cases h⟩
  · simp [Value.cells] at hcs
    obtain ⟨rfl, rfl, rfl⟩ := hcs
    have hlm : len ≤ m := by rw [hmm]; split <;> omega
    rw [hC] at hx
    obtain ⟨V, hV⟩ := choose_lt (α := List Value) (p := fun i cs => W.cells? 0 (a.add (i * fs.size)) fs.size = some cs ∧ DataW.trod enc P W 0 (fun _ => true) true n e cs = some (D i, Pl i)) (n := m) (fun i hi => hx i hi)
    have hlen : ∀ cs ∈ (List.range len).map V, cs.length = fs.size := by
      intro cs hcs
      obtain ⟨i, hi, rfl⟩ := List.mem_map.1 hcs
      exact (World.cells?_some (hV i (by have := List.mem_range.1 hi; omega)).1).2.1
    have hsp : 0 < len → a.spot = none := fun h0 => by
      obtain ⟨_, hl0, hc0⟩ := World.cells?_some (hV 0 (by omega)).1
      have := hc0 0 hpos
      rw [List.getElem?_eq_getElem (by omega)] at this
      have e0 : (a.add (0 * fs.size)).add 0 = a := by simp [Addr.add]
      rw [e0] at this
      exact World.cell?_spot this
    refine ⟨some a, (List.range len).map V, cap, by simp, ⟨?_, by simp; omega, some a, cap, rfl, by simpa using hl, hm, (fun h => by cases h), fun ad had => ?_⟩, fun cs hcs => ⟨hlen cs hcs, fun i f hif => ?_⟩⟩
    · rw [List.length_flatten]
      have : ∀ l : List (List Value), (∀ c ∈ l, c.length = fs.size) → (l.map List.length).sum = l.length * fs.size := by
        intro l
        induction l with
        | nil => intro _; simp
        | cons c l ih =>
          intro hh
          rw [List.map_cons, List.sum_cons, ih (fun x hx => hh x (List.mem_cons_of_mem _ hx)), hh c (List.mem_cons_self ..), List.length_cons, Nat.succ_mul]
          omega
      exact this _ hlen
    · cases had
      refine ⟨fun h0 => hsp (by simpa using h0), fun j u hu => ?_⟩
      rw [flatten_at hpos hlen] at hu
      obtain ⟨cs, h1, h2⟩ := Option.bind_eq_some_iff.1 hu
      rw [List.getElem?_map] at h1
      obtain ⟨i, hi, rfl⟩ := Option.map_eq_some_iff.1 h1
      obtain ⟨hj, rfl⟩ := List.getElem?_eq_some_iff.1 hi
      simp at hj h2
      obtain ⟨_, hl0, hc0⟩ := World.cells?_some (hV (j / fs.size) (by omega)).1
      have hmod : j % fs.size < fs.size := Nat.mod_lt _ hpos
      have := hc0 (j % fs.size) hmod
      rw [h2, add_add] at this
      rw [← this]
      congr 2
      rw [Nat.mul_comm]
      exact (Nat.div_add_mod j fs.size).symm
    · obtain ⟨k, hk, rfl⟩ := List.mem_map.1 hcs
      have hk := List.mem_range.1 hk
      obtain ⟨h1, h2⟩ := hV k (by omega)
      obtain ⟨xs, n', _, _, _, hxl, hfd⟩ := DataW.trod_struct hs h2
      have hlt : i < fs.size := (Array.getElem?_eq_some_iff.1 hif).1
      obtain ⟨ho, hc1⟩ := hone_of hone i f hif
      have g := hfd i f hif
      rw [ho, hc1] at g
      have hll : (V k).length = fs.size := hlen _ hcs
      rw [take1_drop (V k) i undef (by omega), List.getElem?_eq_getElem (by omega)] at g
      exact ⟨n', _, g⟩
end
end Go.Proofs.Ytmfobcejnkakpaa
