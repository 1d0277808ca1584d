/- The disk in plain Lean: names in order, files, what each call does. No program. -/
import Derived.Test.YtmfobcejnkakpaaBase
namespace Go.Proofs.Ytmfobcejnkakpaa
set_option linter.unusedVariables false
set_option linter.unusedSimpArgs false

abbrev cmpB := Lib.compareBytes

theorem cmp_self : ∀ a : Bs, cmpB a a = 0
  | [] => rfl
  | x :: a => by simp [cmpB, Lib.compareBytes, UInt8.lt_irrefl]; exact cmp_self a
theorem cmp_self' (a : Bs) : Lib.compareBytes a a = 0 := cmp_self a
theorem cmp_eq : ∀ {a b : Bs}, cmpB a b = 0 → a = b
  | [], [], _ => rfl
  | [], _ :: _, h => by simp [cmpB, Lib.compareBytes] at h
  | _ :: _, [], h => by simp [cmpB, Lib.compareBytes] at h
  | x :: a, y :: b, h => by
    simp only [cmpB, Lib.compareBytes] at h
    split at h
    · cases h
    · split at h
      · cases h
      · rename_i h1 h2
        rw [UInt8.le_antisymm (UInt8.not_lt.1 h2) (UInt8.not_lt.1 h1), cmp_eq h]
theorem cmp_swap : ∀ a b : Bs, cmpB b a = - cmpB a b
  | [], [] => rfl
  | [], _ :: _ => rfl
  | _ :: _, [] => rfl
  | x :: a, y :: b => by
    simp only [cmpB, Lib.compareBytes]
    by_cases h1 : x < y
    · have h2 : ¬ y < x := UInt8.lt_asymm h1
      simp [h1, h2]
    · by_cases h2 : y < x
      · simp [h1, h2]
      · simp [h1, h2]; exact cmp_swap a b
theorem cmp_range : ∀ a b : Bs, cmpB a b = -1 ∨ cmpB a b = 0 ∨ cmpB a b = 1
  | [], [] => .inr (.inl rfl)
  | [], _ :: _ => .inl rfl
  | _ :: _, [] => .inr (.inr rfl)
  | x :: a, y :: b => by
    simp only [cmpB, Lib.compareBytes]
    split
    · exact .inl rfl
    · split
      · exact .inr (.inr rfl)
      · exact cmp_range a b

/-- stands ahead -/
def bl (a b : Bs) : Bool := decide (cmpB a b < 0)
theorem bl_iff {a b : Bs} : bl a b = true ↔ cmpB a b < 0 := by simp [bl]
theorem bl_irrefl (a : Bs) : bl a a = false := by simp [bl, cmp_self]
theorem bl_asymm {a b : Bs} (h : bl a b = true) : bl b a = false := by
  rw [bl_iff] at h
  simp only [bl, decide_eq_false_iff_not]
  rw [cmp_swap]; omega
theorem bl_ne {a b : Bs} (h : bl a b = true) : a ≠ b := by
  intro e; subst e; rw [bl_irrefl] at h; cases h
theorem bl_total {a b : Bs} (h1 : bl a b = false) (h2 : bl b a = false) : a = b := by
  simp only [bl, decide_eq_false_iff_not] at h1 h2
  rw [cmp_swap] at h2
  exact cmp_eq (by omega)
theorem bl_trans : ∀ {a b c : Bs}, bl a b = true → bl b c = true → bl a c = true
  | [], [], _, h, _ => by simp [bl, cmpB, Lib.compareBytes] at h
  | _, [], [], _, h => by simp [bl, cmpB, Lib.compareBytes] at h
  | [], _ :: _, [], _, h => by simp [bl, cmpB, Lib.compareBytes] at h
  | [], _ :: _, _ :: _, _, _ => by simp [bl, cmpB, Lib.compareBytes]
  | _ :: _, [], _, h, _ => by simp [bl, cmpB, Lib.compareBytes] at h
  | _ :: _, _ :: _, [], _, h => by simp [bl, cmpB, Lib.compareBytes] at h
  | x :: a, y :: b, z :: c, h1, h2 => by
    have ih := @bl_trans a b c
    simp only [bl_iff] at ih h1 h2 ⊢
    simp only [cmpB, Lib.compareBytes] at h1 h2 ⊢
    by_cases xy : x < y
    · by_cases yz : y < z
      · simp [UInt8.lt_trans xy yz]
      · by_cases zy : z < y
        · simp [yz, zy] at h2
        · have e : y = z := UInt8.le_antisymm (UInt8.not_lt.1 zy) (UInt8.not_lt.1 yz)
          subst e; simp [xy]
    · by_cases yx : y < x
      · simp [xy, yx] at h1
      · have e : x = y := UInt8.le_antisymm (UInt8.not_lt.1 yx) (UInt8.not_lt.1 xy)
        subst e
        simp only [UInt8.lt_irrefl, if_false] at h1
        by_cases yz : x < z
        · simp [yz]
        · by_cases zy : z < x
          · simp [yz, zy] at h2
          · simp only [yz, zy, if_false] at h2 ⊢
            exact ih h1 h2
theorem bl_of_not {a b : Bs} (h : bl a b = false) (hne : a ≠ b) : bl b a = true := by
  cases h' : bl b a with
  | true => rfl
  | false => exact absurd (bl_total h h') hne

section
variable {α : Type} (key : α → Bs)
/-- rising keys -/
def Rising (l : List α) : Prop := l.Pairwise fun x y => bl (key x) (key y) = true
def putL (l : List α) (f : α) : List α := l.filter (fun x => bl (key x) (key f)) ++ f :: l.filter (fun x => bl (key f) (key x))
def dropL (l : List α) (s : Bs) : List α := l.filter fun x => key x != s
def getL (l : List α) (s : Bs) : Option α := l.find? fun x => key x == s
def setL (l : List α) (s : Bs) (g : α → α) : List α := l.map fun x => if key x = s then g x else x
variable {key}
theorem Rising.cut {l : List α} (h : Rising key l) (s : Bs) (i : Nat) (hi : i ≤ l.length) (h1 : ∀ (k : Nat) (hk : k < l.length), k < i → bl (key l[k]) s = true) (h2 : ∀ (k : Nat) (hk : k < l.length), i ≤ k → bl (key l[k]) s = false) :
    l.take i = l.filter (fun x => bl (key x) s) ∧ l.drop i = l.filter (fun x => !bl (key x) s) := by
  have e1 : ∀ x ∈ l.take i, bl (key x) s = true := by
    intro x hx
    obtain ⟨k, hk, rfl⟩ := List.mem_iff_getElem.1 hx
    rw [List.length_take] at hk
    rw [List.getElem_take]
    exact h1 k (by omega) (by omega)
  have e2 : ∀ x ∈ l.drop i, bl (key x) s = false := by
    intro x hx
    obtain ⟨k, hk, rfl⟩ := List.mem_iff_getElem.1 hx
    simp at hk
    rw [List.getElem_drop]
    exact h2 _ (by omega) (by omega)
  constructor
  · conv => rhs; rw [← List.take_append_drop i l]
    rw [List.filter_append, List.filter_eq_self.2 e1, List.filter_eq_nil_iff.2 (fun x hx => by simp [e2 x hx]), List.append_nil]
  · conv => rhs; rw [← List.take_append_drop i l]
    rw [List.filter_append, List.filter_eq_nil_iff.2 (fun x hx => by simp [e1 x hx]), List.nil_append, List.filter_eq_self.2 (fun x hx => by simp [e2 x hx])]
theorem Rising.filter {l : List α} (h : Rising key l) (p : α → Bool) : Rising key (l.filter p) := List.Pairwise.filter p h
/-- where it is not: what does not stand ahead stands behind -/
theorem filter_behind {l : List α} {s : Bs} (h : ∀ x ∈ l, key x ≠ s) : l.filter (fun x => !bl (key x) s) = l.filter (fun x => bl s (key x)) := by
  apply List.filter_congr
  intro x hx
  cases h1 : bl (key x) s with
  | true => simp [bl_asymm h1]
  | false => simp [bl_of_not h1 (h x hx)]
/-- where it is: it, then what stands behind -/
theorem Rising.behind_some {l : List α} (h : Rising key l) {i : Nat} (hi : i < l.length) {s : Bs} (hs : key l[i] = s) (h1 : ∀ (k : Nat) (hk : k < l.length), k < i → bl (key l[k]) s = true) :
    l.drop (i + 1) = l.filter (fun x => bl s (key x)) := by
  conv => rhs; rw [← List.take_append_drop (i + 1) l]
  rw [List.filter_append, List.filter_eq_nil_iff.2, List.nil_append, List.filter_eq_self.2]
  · intro x hx
    obtain ⟨k, hk, rfl⟩ := List.mem_iff_getElem.1 hx
    rw [List.length_drop] at hk
    rw [List.getElem_drop, ← hs]
    exact List.pairwise_iff_getElem.1 h i (i + 1 + k) hi (by omega) (by omega)
  · intro x hx
    obtain ⟨k, hk, rfl⟩ := List.mem_iff_getElem.1 hx
    rw [List.length_take] at hk
    rw [List.getElem_take]
    by_cases hki : k = i
    · subst hki; simp [hs, bl_irrefl]
    · simp [bl_asymm (h1 k (by omega) (by omega))]
theorem Rising.key_inj {l : List α} (h : Rising key l) {i j : Nat} (hi : i < l.length) (hj : j < l.length) (e : key l[i] = key l[j]) : i = j := by
  rcases Nat.lt_trichotomy i j with h' | h' | h'
  · exact absurd e (bl_ne (List.pairwise_iff_getElem.1 h i j hi hj h'))
  · exact h'
  · exact absurd e.symm (bl_ne (List.pairwise_iff_getElem.1 h j i hj hi h'))
theorem Rising.put {l : List α} (h : Rising key l) (f : α) : Rising key (putL key l f) := by
  unfold Rising putL
  rw [List.pairwise_append]
  refine ⟨h.filter _, List.pairwise_cons.2 ⟨fun x hx => (List.mem_filter.1 hx).2, h.filter _⟩, fun x hx y hy => ?_⟩
  have hx' := (List.mem_filter.1 hx).2
  rcases List.mem_cons.1 hy with rfl | hy
  · exact hx'
  · exact bl_trans hx' (List.mem_filter.1 hy).2
theorem mem_put {l : List α} {f x : α} : x ∈ putL key l f ↔ x = f ∨ (x ∈ l ∧ key x ≠ key f) := by
  unfold putL
  simp only [List.mem_append, List.mem_filter, List.mem_cons]
  constructor
  · rintro (⟨h1, h2⟩ | rfl | ⟨h1, h2⟩)
    · exact .inr ⟨h1, bl_ne h2⟩
    · exact .inl rfl
    · exact .inr ⟨h1, (bl_ne h2).symm⟩
  · rintro (rfl | ⟨h1, h2⟩)
    · exact .inr (.inl rfl)
    · cases h3 : bl (key x) (key f) with
      | true => exact .inl ⟨h1, rfl⟩
      | false => exact .inr (.inr ⟨h1, bl_of_not h3 h2⟩)
theorem mem_drop {l : List α} {s : Bs} {x : α} : x ∈ dropL key l s ↔ x ∈ l ∧ key x ≠ s := by simp [dropL]
theorem Rising.drop {l : List α} (h : Rising key l) (s : Bs) : Rising key (dropL key l s) := h.filter _
theorem get_mem {l : List α} {s : Bs} {f : α} (h : getL key l s = some f) : f ∈ l ∧ key f = s := ⟨List.mem_of_find?_eq_some h, by simpa using List.find?_some h⟩
theorem get_none {l : List α} {s : Bs} : getL key l s = none ↔ ∀ x ∈ l, key x ≠ s := by simp [getL]
theorem Rising.get_of_mem {l : List α} (h : Rising key l) {x : α} (hx : x ∈ l) : getL key l (key x) = some x := by
  cases hg : getL key l (key x) with
  | none => exact absurd rfl (get_none.1 hg x hx)
  | some y =>
    obtain ⟨hy, e⟩ := get_mem hg
    obtain ⟨i, hi, rfl⟩ := List.mem_iff_getElem.1 hx
    obtain ⟨j, hj, rfl⟩ := List.mem_iff_getElem.1 hy
    have := h.key_inj hj hi e
    subst this; rfl
theorem Rising.get_iff {l : List α} (h : Rising key l) {s : Bs} {x : α} : getL key l s = some x ↔ x ∈ l ∧ key x = s :=
  ⟨get_mem, fun ⟨hx, e⟩ => by subst e; exact h.get_of_mem hx⟩
theorem Rising.get_put {l : List α} (h : Rising key l) (f : α) (s : Bs) : getL key (putL key l f) s = if s = key f then some f else getL key l s := by
  split
  · rename_i e; subst e
    exact (h.put f).get_of_mem (mem_put.2 (.inl rfl))
  · rename_i e
    cases hg : getL key l s with
    | none =>
      rw [get_none] at hg ⊢
      intro x hx e'
      rcases mem_put.1 hx with rfl | ⟨hx, _⟩
      · exact e e'.symm
      · exact hg x hx e'
    | some y =>
      obtain ⟨hy, rfl⟩ := get_mem hg
      exact (h.put f).get_of_mem (mem_put.2 (.inr ⟨hy, e⟩))
theorem Rising.get_drop {l : List α} (h : Rising key l) (t s : Bs) : getL key (dropL key l t) s = if s = t then none else getL key l s := by
  split
  · rename_i e; subst e
    rw [get_none]; intro x hx; exact (mem_drop.1 hx).2
  · rename_i e
    cases hg : getL key l s with
    | none => rw [get_none] at hg ⊢; intro x hx; exact hg x (mem_drop.1 hx).1
    | some y =>
      obtain ⟨hy, rfl⟩ := get_mem hg
      exact (h.drop t).get_of_mem (mem_drop.2 ⟨hy, e⟩)
theorem key_set (l : List α) (s : Bs) (g : α → α) (hg : ∀ x, key (g x) = key x) : (setL key l s g).map key = l.map key := by
  unfold setL
  rw [List.map_map]
  apply List.map_congr_left
  intro x _
  simp only [Function.comp]
  split
  · exact hg x
  · rfl
theorem Rising.of_keys {l m : List α} (h : Rising key l) (e : m.map key = l.map key) : Rising key m := by
  have h' : (l.map key).Pairwise fun a b => bl a b = true := List.pairwise_map.2 h
  rw [← e] at h'
  exact List.pairwise_map.1 h'
theorem Rising.set {l : List α} (h : Rising key l) (s : Bs) (g : α → α) (hg : ∀ x, key (g x) = key x) : Rising key (setL key l s g) := h.of_keys (key_set l s g hg)
theorem get_set (l : List α) (s : Bs) (g : α → α) (hg : ∀ x, key (g x) = key x) (t : Bs) : getL key (setL key l s g) t = (getL key l t).map fun x => if t = s then g x else x := by
  unfold getL setL
  rw [List.find?_map]
  have : ((fun x => key x == t) ∘ fun x => if key x = s then g x else x) = fun x => key x == t := by
    funext x; simp only [Function.comp]; split <;> simp [hg]
  rw [this]
  cases hf : l.find? (fun x => key x == t) with
  | none => rfl
  | some x =>
    have : key x = t := by simpa using List.find?_some hf
    simp [this]
theorem map_put {β : Type} {key' : β → Bs} (φ : α → β) (hk : ∀ x, key' (φ x) = key x) (l : List α) (f : α) : (putL key l f).map φ = putL key' (l.map φ) (φ f) := by
  simp [putL, List.filter_map, Function.comp_def, hk]
theorem map_drop {β : Type} {key' : β → Bs} (φ : α → β) (hk : ∀ x, key' (φ x) = key x) (l : List α) (s : Bs) : (dropL key l s).map φ = dropL key' (l.map φ) s := by
  simp [dropL, List.filter_map, Function.comp_def, hk]
theorem map_get {β : Type} {key' : β → Bs} (φ : α → β) (hk : ∀ x, key' (φ x) = key x) (l : List α) (s : Bs) : getL key' (l.map φ) s = (getL key l s).map φ := by
  simp [getL, List.find?_map, Function.comp_def, hk]
end

/-- a file, a disk -/
structure MF where
  name : Bs
  b : Bs
  synced : Nat
structure MD where
  limit : Int
  armed : Int
  down : Bool
  fs : List MF

namespace MD
def used (m : MD) : Nat := (m.fs.map fun f => f.b.length).sum
/-- a call counts -/
def count (m : MD) : MD := if 0 < m.armed then { m with armed := m.armed - 1, down := m.armed - 1 == 0 } else m
def get (m : MD) (s : Bs) : Option MF := getL MF.name m.fs s
def right (s : Bs) : Bool := decide (0 < s.length) && decide (s.length ≤ 32)
def create (m : MD) (s : Bs) : Int × MD :=
  if right s = false then (1, m) else if m.count.down = true then (13, m.count) else (0, { m.count with fs := putL MF.name m.count.fs ⟨s, [], 0⟩ })
def append (m : MD) (s b : Bs) : Int × MD :=
  match m.get s with
  | none => (22, m)
  | some _ => if m.down = true ∨ m.limit - m.used < b.length then (13, m.count)
    else (if m.count.down = true then 13 else 0, { m.count with fs := setL MF.name m.fs s fun f => { f with b := f.b ++ b } })
def sync (m : MD) (s : Bs) : Int × MD :=
  match m.get s with
  | none => (22, m)
  | some _ => if m.count.down = true then (13, m.count) else (0, { m.count with fs := setL MF.name m.fs s fun f => { f with synced := f.b.length } })
def cut (m : MD) (s : Bs) (n : Int) : Int × MD :=
  match m.get s with
  | none => (22, m)
  | some f => if n < 0 ∨ f.b.length < n then (1, m) else if m.count.down = true then (13, m.count)
    else (0, { m.count with fs := setL MF.name m.fs s fun f => { f with b := f.b.take n.toNat, synced := n.toNat } })
def rename (m : MD) (a c : Bs) : Int × MD :=
  match m.get a with
  | none => (22, m)
  | some f => if right c = false then (1, m) else if m.count.down = true then (13, m.count)
    else (0, { m.count with fs := putL MF.name (dropL MF.name m.fs a) { f with name := c } })
def remove (m : MD) (s : Bs) : Int × MD :=
  match m.get s with
  | none => (22, m)
  | some _ => if m.count.down = true then (13, m.count) else (0, { m.count with fs := dropL MF.name m.fs s })
def arm (m : MD) (n : Int) : MD := if m.down = true then m else { m with armed := max n 0 }
def kept (keep : Int) (f : MF) : Nat := f.synced + min keep.toNat (f.b.length - f.synced)
def crash (m : MD) (keep : Int) : MD := { m with armed := 0, down := false, fs := m.fs.map fun f => { f with b := f.b.take (kept keep f), synced := kept keep f } }
def grow (m : MD) (n : Int) : Bool × MD := if n < m.used ∨ 16777216 < n then (false, m) else (true, { m with limit := n })
def new (n : Int) : MD := ⟨n, 0, false, []⟩

/-- what holds of a disk all the time -/
structure Ok (m : MD) : Prop where
  lim0 : 0 ≤ m.limit
  lim1 : m.limit ≤ 16777216
  arm0 : 0 ≤ m.armed
  arm1 : m.armed ≤ 9223372036854775807
  down : m.down = true → m.armed = 0
  rising : Rising MF.name m.fs
  room : (m.used : Int) ≤ m.limit
  names : ∀ f ∈ m.fs, right f.name = true
  synced : ∀ f ∈ m.fs, f.synced ≤ f.b.length
end MD
end Go.Proofs.Ytmfobcejnkakpaa
