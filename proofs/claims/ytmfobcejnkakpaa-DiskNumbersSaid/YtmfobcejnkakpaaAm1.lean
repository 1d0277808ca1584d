/- The plain machine's heap, and when a world is one of it. -/
import Derived.Test.YtmfobcejnkakpaaAm0
namespace Go.Proofs.Ytmfobcejnkakpaa
set_option linter.unusedVariables false
set_option linter.unusedSimpArgs false
namespace Am
open Go.RowKit

/-- a table by numbers, as a tree by their bits -/
inductive T (α : Type) where
  | nil
  | node (l : T α) (v : Option α) (r : T α)
theorem nbeq {a b : Nat} (h : a ≠ b) : Nat.beq a b = false := by
  cases e : Nat.beq a b with
  | false => rfl
  | true => exact absurd (Nat.eq_of_beq_eq_true e) h
namespace T
variable {α : Type}
noncomputable def lf (t : T α) : T α := T.casesOn (motive := fun _ => T α) t .nil (fun l _ _ => l)
noncomputable def rt (t : T α) : T α := T.casesOn (motive := fun _ => T α) t .nil (fun _ _ r => r)
noncomputable def vl (t : T α) : Option α := T.casesOn (motive := fun _ => Option α) t none (fun _ v _ => v)
noncomputable def get (f : Nat) : T α → Nat → Option α :=
  Nat.rec (motive := fun _ => T α → Nat → Option α) (fun _ _ => none)
    (fun _ ih t n => Bool.rec (motive := fun _ => Option α) (Bool.rec (motive := fun _ => Option α) (ih t.rt (Nat.div n 2)) (ih t.lf (Nat.div n 2)) (Nat.beq (Nat.mod n 2) 0)) t.vl (Nat.beq n 0)) f
noncomputable def set (f : Nat) : T α → Nat → Option α → T α :=
  Nat.rec (motive := fun _ => T α → Nat → Option α → T α) (fun t _ _ => t)
    (fun _ ih t n a => Bool.rec (motive := fun _ => T α) (Bool.rec (motive := fun _ => T α) (.node t.lf t.vl (ih t.rt (Nat.div n 2) a)) (.node (ih t.lf (Nat.div n 2) a) t.vl t.rt) (Nat.beq (Nat.mod n 2) 0)) (.node t.lf a t.rt) (Nat.beq n 0)) f
theorem get_succ (f : Nat) (t : T α) (n : Nat) : get (f + 1) t n = if n = 0 then t.vl else if n % 2 = 0 then get f t.lf (n / 2) else get f t.rt (n / 2) := by
  show Bool.rec (motive := fun _ => Option α) (Bool.rec (motive := fun _ => Option α) (get f t.rt (n / 2)) (get f t.lf (n / 2)) (Nat.beq (n % 2) 0)) t.vl (Nat.beq n 0) = _
  by_cases h : n = 0
  · subst h; rfl
  · rw [if_neg h, nbeq h]
    by_cases h2 : n % 2 = 0
    · rw [if_pos h2, h2]; rfl
    · rw [if_neg h2, nbeq h2]
theorem set_succ (f : Nat) (t : T α) (n : Nat) (a : Option α) : set (f + 1) t n a = if n = 0 then .node t.lf a t.rt else if n % 2 = 0 then .node (set f t.lf (n / 2) a) t.vl t.rt else .node t.lf t.vl (set f t.rt (n / 2) a) := by
  show Bool.rec (motive := fun _ => T α) (Bool.rec (motive := fun _ => T α) (.node t.lf t.vl (set f t.rt (n / 2) a)) (.node (set f t.lf (n / 2) a) t.vl t.rt) (Nat.beq (n % 2) 0)) (.node t.lf a t.rt) (Nat.beq n 0) = _
  by_cases h : n = 0
  · subst h; rfl
  · rw [if_neg h, nbeq h]
    by_cases h2 : n % 2 = 0
    · rw [if_pos h2, h2]; rfl
    · rw [if_neg h2, nbeq h2]
theorem get_set {x : α} : ∀ (f : Nat) (t : T α) (n : Nat) (a : Option α) (m : Nat), get f (set f t n a) m = some x → (m = n ∧ a = some x) ∨ (m ≠ n ∧ get f t m = some x)
  | 0, t, n, a, m, h => by cases h
  | f + 1, t, n, a, m, h => by
    rw [get_succ] at h
    rw [get_succ]
    rw [set_succ] at h
    by_cases hn : n = 0
    · simp only [if_pos hn] at h
      by_cases hm : m = 0
      · rw [if_pos hm] at h
        exact .inl ⟨by omega, h⟩
      · rw [if_neg hm] at h ⊢
        exact .inr ⟨by omega, h⟩
    · simp only [if_neg hn] at h
      by_cases hn2 : n % 2 = 0
      · simp only [if_pos hn2] at h
        by_cases hm : m = 0
        · rw [if_pos hm] at h ⊢
          exact .inr ⟨by omega, h⟩
        · rw [if_neg hm] at h ⊢
          by_cases hm2 : m % 2 = 0
          · rw [if_pos hm2] at h ⊢
            rcases get_set f t.lf (n / 2) a (m / 2) h with ⟨h1, h2⟩ | ⟨h1, h2⟩
            · exact .inl ⟨by omega, h2⟩
            · exact .inr ⟨fun e => h1 (by rw [e]), h2⟩
          · rw [if_neg hm2] at h ⊢
            exact .inr ⟨fun e => hm2 (by rw [e]; exact hn2), h⟩
      · simp only [if_neg hn2] at h
        by_cases hm : m = 0
        · rw [if_pos hm] at h ⊢
          exact .inr ⟨by omega, h⟩
        · rw [if_neg hm] at h ⊢
          by_cases hm2 : m % 2 = 0
          · rw [if_pos hm2] at h ⊢
            exact .inr ⟨fun e => hn2 (by rw [← e]; exact hm2), h⟩
          · rw [if_neg hm2] at h ⊢
            rcases get_set f t.rt (n / 2) a (m / 2) h with ⟨h1, h2⟩ | ⟨h1, h2⟩
            · exact .inl ⟨by omega, h2⟩
            · exact .inr ⟨fun e => h1 (by rw [e]), h2⟩
end T

/-- things of the heap that are told by a plain model: of what a part of a program has been shown already -/
structure Objs where
  X : Type
  rep : X → World → Nat → (Nat → Prop) → Prop
  lt : ∀ {x w b S}, rep x w b S → ∀ k, S k → k < w.heap.size
  keep : ∀ {x w w' b S}, rep x w b S → (∀ k, S k → w'.heap[k]? = w.heap[k]?) → rep x w' b S

/-- a block: its own cells, cells that lay there and are but read, or a thing of a model -/
inductive AB (X : Type) where
  | rw (l : List AV)
  | ro (l : List AV)
  | obj (x : X)
def AB.own {X : Type} : AB X → Bool
  | .ro _ => false
  | _ => true

structure Hp (X : Type) where
  t : T (AB X)
  n : Nat
noncomputable def Hp.get {X : Type} (h : Hp X) (g : Nat) : Option (AB X) := h.t.get 40 g
noncomputable def Hp.put {X : Type} (h : Hp X) (g : Nat) (c : AB X) : Hp X := ⟨h.t.set 40 g (some c), h.n⟩
noncomputable def Hp.del {X : Type} (h : Hp X) (g : Nat) : Hp X := ⟨h.t.set 40 g none, h.n⟩
noncomputable def Hp.push {X : Type} (h : Hp X) (c : AB X) : Hp X := ⟨h.t.set 40 h.n (some c), Nat.succ h.n⟩
theorem Hp.get_put {X : Type} {h : Hp X} {g k : Nat} {c x : AB X} (e : (h.put g c).get k = some x) : (k = g ∧ x = c) ∨ (k ≠ g ∧ h.get k = some x) := by
  rcases T.get_set 40 h.t g (some c) k e with ⟨h1, h2⟩ | h'
  · cases h2; exact .inl ⟨h1, rfl⟩
  · exact .inr h'
theorem Hp.get_del {X : Type} {h : Hp X} {g k : Nat} {x : AB X} (e : (h.del g).get k = some x) : k ≠ g ∧ h.get k = some x := by
  rcases T.get_set 40 h.t g none k e with ⟨h1, h2⟩ | h'
  · cases h2
  · exact h'
theorem Hp.get_push {X : Type} {h : Hp X} {k : Nat} {c x : AB X} (e : (h.push c).get k = some x) : (k = h.n ∧ x = c) ∨ (k ≠ h.n ∧ h.get k = some x) := by
  rcases T.get_set 40 h.t h.n (some c) k e with ⟨h1, h2⟩ | h'
  · cases h2; exact .inl ⟨h1, rfl⟩
  · exact .inr h'

/-- a row of cells from an index on -/
def RowR (m : Mu) (l : List AV) (f : Nat → Option Value) : Prop := ∀ (i : Nat) v, l[i]? = some v → ∃ v', f i = some v' ∧ VR m v v' ∧ v.one = true
theorem RowR.ext {m m' : Mu} (h : Ext m m') {l : List AV} {f : Nat → Option Value} (hr : RowR m l f) : RowR m' l f := fun i v hi => by
  obtain ⟨v', h1, h2, h3⟩ := hr i v hi
  exact ⟨v', h1, h2.ext h, h3⟩

/-- what of a block may not be written lies behind its end -/
def FzOK (fz : Nat × Nat) (n : Nat) : Prop := fz.1 = fz.2 ∨ n ≤ fz.1
theorem FzOK.at {fz : Nat × Nat} {n : Nat} (h : FzOK fz n) {i : Nat} (hi : i < n) : (decide (fz.1 ≤ i) && decide (i < fz.2)) = false := by
  rcases h with h | h
  · simp; omega
  · simp; omega
def BlkOK (O : Objs) (w0 w : World) (m : Mu) (p : Pl) (S : Nat → Prop) : AB O.X → Prop
  | .rw l => ∃ cs ty fz, w.heap[p.b]? = some (.cells cs ty fz) ∧ FzOK fz cs.size ∧ p.e ≤ cs.size ∧ p.s + l.length ≤ p.e ∧
      RowR m l (fun i => cs[p.s + i]?) ∧ (∀ k, S k ↔ k = p.b) ∧ (p.z = 0 → fz = (0, 0))
  | .ro l => p.b < w0.heap.size ∧ p.s + l.length ≤ p.e ∧ RowR m l (fun i => w0.cell? ⟨p.b, p.s + i, none⟩)
  | .obj x => p.s = 0 ∧ O.rep x w p.b S

theorem BlkOK.ext {O : Objs} {w0 w : World} {m m' : Mu} {p : Pl} {S : Nat → Prop} {c : AB O.X} (h : Ext m m') (hb : BlkOK O w0 w m p S c) : BlkOK O w0 w m' p S c := by
  cases c with
  | rw l =>
    obtain ⟨cs, ty, fz, h1, h2, h3, h4, h5, h6⟩ := hb
    exact ⟨cs, ty, fz, h1, h2, h3, h4, h5.ext h, h6⟩
  | ro l => exact ⟨hb.1, hb.2.1, hb.2.2.ext h⟩
  | obj x => exact hb
theorem BlkOK.same {O : Objs} {w0 w w' : World} {m : Mu} {p : Pl} {S : Nat → Prop} {c : AB O.X} (hb : BlkOK O w0 w m p S c) (h : c.own = true → ∀ k, S k → w'.heap[k]? = w.heap[k]?) : BlkOK O w0 w' m p S c := by
  cases c with
  | rw l =>
    obtain ⟨cs, ty, fz, h1, h2, h3, h4, h5, h6, h7⟩ := hb
    exact ⟨cs, ty, fz, (h rfl p.b ((h6 _).2 rfl)).trans h1, h2, h3, h4, h5, h6, h7⟩
  | ro l => exact hb
  | obj x => exact ⟨hb.1, O.keep hb.2 (h rfl)⟩
theorem BlkOK.lt {O : Objs} {w0 w : World} {m : Mu} {p : Pl} {S : Nat → Prop} {c : AB O.X} (hb : BlkOK O w0 w m p S c) (hc : c.own = true) {k : Nat} (hk : S k) : k < w.heap.size := by
  cases c with
  | rw l =>
    obtain ⟨cs, ty, fz, h1, _, _, _, _, h6, _⟩ := hb
    rw [(h6 k).1 hk]
    exact lt_of_block h1
  | ro l => cases hc
  | obj x => exact O.lt hb.2 k hk

abbrev Ph := Nat → Nat → Prop
def Ph.set (φ : Ph) (g : Nat) (S : Nat → Prop) : Ph := fun k => if k = g then S else φ k
def Mu.set (m : Mu) (g : Nat) (p : Pl) : Mu := fun k => if k = g then some p else m k
theorem Mu.ext_set {m : Mu} {g : Nat} (h : m g = none) (p : Pl) : Ext m (m.set g p) := fun k q hk => by
  unfold Mu.set
  split
  · rename_i e; subst e; rw [h] at hk; cases hk
  · exact hk
theorem Mu.set_self (m : Mu) (g : Nat) (p : Pl) : m.set g p g = some p := by simp [Mu.set]

/-- THE RELATION: a world that came of w0 is one of the plain heap h -/
structure SR (O : Objs) (w0 w : World) (m : Mu) (φ : Ph) (h : Hp O.X) : Prop where
  below : Below w0.heap.size w0 w
  blk : ∀ g c, h.get g = some c → ∀ p, m g = some p → BlkOK O w0 w m p (φ g) c
  dis : ∀ g g' c c', h.get g = some c → h.get g' = some c' → g ≠ g' → c.own = true → c'.own = true → (m g).isSome = true → (m g').isSome = true → ∀ k, φ g k → ¬ φ g' k
  fresh : ∀ g c, h.get g = some c → c.own = true → (m g).isSome = true → ∀ k, φ g k → w0.heap.size ≤ k
  dom : ∀ g p, m g = some p → g < h.n

namespace SR
variable {O : Objs} {w0 w w' : World} {m : Mu} {φ : Ph} {h : Hp O.X}
theorem none_n (H : SR O w0 w m φ h) : m h.n = none := by
  cases e : m h.n with
  | none => rfl
  | some p => exact absurd (H.dom _ _ e) (Nat.lt_irrefl _)
theorem drew (H : SR O w0 w m φ h) : SR O w0 w.drew m φ h :=
  ⟨⟨H.below.os, H.below.tape, H.below.output, H.below.size, H.below.block⟩, fun g c hg p hp => (H.blk g c hg p hp).same (fun _ _ _ => rfl), H.dis, H.fresh, H.dom⟩
/-- a block's own cells become others -/
theorem upd (H : SR O w0 w m φ h) {g : Nat} {c c' : AB O.X} {p : Pl} (hg : h.get g = some c) (hc : c.own = true) (hp : m g = some p) {S' : Nat → Prop} (hu : Upd (φ g) w w')
    (hb : BlkOK O w0 w' m p S' c') (hc' : c'.own = true) (hS : ∀ k, S' k → φ g k ∨ w.heap.size ≤ k) : SR O w0 w' m (φ.set g S') (h.put g c') := by
  have hps : (m g).isSome = true := by rw [hp]; rfl
  have hlow := H.fresh g c hg hc hps
  have hsz := H.below.size
  have key : ∀ k, S' k → w0.heap.size ≤ k := fun k hk => by
    rcases hS k hk with h' | h'
    · exact hlow k h'
    · omega
  have apart : ∀ g' c1, h.get g' = some c1 → g' ≠ g → c1.own = true → (m g').isSome = true → ∀ k, φ g' k → ¬ S' k := fun g' c1 h1 hne ho hm k hk hS' => by
    rcases hS k hS' with h' | h'
    · exact H.dis g g' c c1 hg h1 (Ne.symm hne) hc ho hps hm k h' hk
    · obtain ⟨p', hp'⟩ := Option.isSome_iff_exists.1 hm
      have := (H.blk g' c1 h1 p' hp').lt ho hk
      omega
  refine ⟨below_upd H.below hu (fun b hb => hlow b hb), fun g' c1 h1 p' hp' => ?_, fun g1 g2 c1 c2 h1 h2 hne o1 o2 m1 m2 k hk => ?_, fun g' c1 h1 o1 m1 k hk => ?_, H.dom⟩
  · rcases Hp.get_put h1 with ⟨rfl, rfl⟩ | ⟨hne, h1'⟩
    · rw [hp] at hp'; cases hp'
      simp only [Ph.set, if_pos]
      exact hb
    · simp only [Ph.set, if_neg hne]
      exact (H.blk g' c1 h1' p' hp').same fun ho k hk => hu.block k ((H.blk g' c1 h1' p' hp').lt ho hk) (fun hk' => H.dis g g' c c1 hg h1' (Ne.symm hne) hc ho hps (by rw [hp']; rfl) k hk' hk)
  · rcases Hp.get_put h1 with ⟨rfl, rfl⟩ | ⟨hne1, h1'⟩
    · rcases Hp.get_put h2 with ⟨rfl, rfl⟩ | ⟨hne2, h2'⟩
      · exact absurd rfl hne
      · simp only [Ph.set, if_pos, if_neg hne2] at hk ⊢
        exact fun hk' => apart g2 c2 h2' hne2 o2 m2 k hk' hk
    · rcases Hp.get_put h2 with ⟨rfl, rfl⟩ | ⟨hne2, h2'⟩
      · simp only [Ph.set, if_pos, if_neg hne1] at hk ⊢
        exact apart g1 c1 h1' hne1 o1 m1 k hk
      · simp only [Ph.set, if_neg hne1, if_neg hne2] at hk ⊢
        exact H.dis g1 g2 c1 c2 h1' h2' hne o1 o2 m1 m2 k hk
  · rcases Hp.get_put h1 with ⟨rfl, rfl⟩ | ⟨hne, h1'⟩
    · simp only [Ph.set, if_pos] at hk
      exact key k hk
    · simp only [Ph.set, if_neg hne] at hk
      exact H.fresh g' c1 h1' o1 m1 k hk
/-- a block more; what it is made of (g) is gone -/
theorem move (H : SR O w0 w m φ h) {g : Nat} {c c' : AB O.X} {p q : Pl} (hg : h.get g = some c) (hc : c.own = true) (hp : m g = some p) {S' : Nat → Prop} (hu : Upd (φ g) w w')
    (hb : BlkOK O w0 w' (m.set h.n q) q S' c') (hc' : c'.own = true) (hS : ∀ k, S' k → φ g k ∨ w.heap.size ≤ k) : SR O w0 w' (m.set h.n q) (φ.set h.n S') ((h.del g).push c') := by
  have hps : (m g).isSome = true := by rw [hp]; rfl
  have hlow := H.fresh g c hg hc hps
  have hsz := H.below.size
  have hn := H.none_n
  have hext := Mu.ext_set hn q
  have hgn : g ≠ h.n := fun e => by rw [e, hn] at hp; cases hp
  have apart : ∀ g' c1, h.get g' = some c1 → g' ≠ g → c1.own = true → (m g').isSome = true → ∀ k, φ g' k → ¬ S' k := fun g' c1 h1 hne ho hm k hk hS' => by
    rcases hS k hS' with h' | h'
    · exact H.dis g g' c c1 hg h1 (Ne.symm hne) hc ho hps hm k h' hk
    · obtain ⟨p', hp'⟩ := Option.isSome_iff_exists.1 hm
      have := (H.blk g' c1 h1 p' hp').lt ho hk
      omega
  have hm : ∀ g', g' ≠ h.n → m.set h.n q g' = m g' := fun g' hne => by simp [Mu.set, hne]
  refine ⟨below_upd H.below hu (fun b hb => hlow b hb), fun g' c1 h1 p' hp' => ?_, fun g1 g2 c1 c2 h1 h2 hne o1 o2 m1 m2 k hk => ?_, fun g' c1 h1 o1 m1 k hk => ?_, fun g' p' hp' => ?_⟩
  · rcases Hp.get_push h1 with ⟨e, rfl⟩ | ⟨hne, h1'⟩
    · have e : g' = h.n := e
      subst e
      rw [Mu.set_self] at hp'; cases hp'
      simp only [Ph.set, if_pos]
      exact hb
    · have hne : g' ≠ h.n := hne
      obtain ⟨hng, h1'⟩ := Hp.get_del h1'
      rw [hm g' hne] at hp'
      simp only [Ph.set, if_neg hne]
      exact ((H.blk g' c1 h1' p' hp').ext hext).same fun ho k hk => hu.block k ((H.blk g' c1 h1' p' hp').lt ho hk) (fun hk' => H.dis g g' c c1 hg h1' (Ne.symm hng) hc ho hps (by rw [hp']; rfl) k hk' hk)
  · rcases Hp.get_push h1 with ⟨e1, rfl⟩ | ⟨hne1, h1'⟩
    · have e1 : g1 = h.n := e1
      rcases Hp.get_push h2 with ⟨e2, rfl⟩ | ⟨hne2, h2'⟩
      · exact absurd (e1.trans (show h.n = g2 from e2.symm)) hne
      · have hne2 : g2 ≠ h.n := hne2
        obtain ⟨hng, h2'⟩ := Hp.get_del h2'
        simp only [Ph.set, if_pos e1, if_neg hne2] at hk ⊢
        rw [hm g2 hne2] at m2
        exact fun hk' => apart g2 c2 h2' hng o2 m2 k hk' hk
    · have hne1 : g1 ≠ h.n := hne1
      obtain ⟨hng1, h1'⟩ := Hp.get_del h1'
      rw [hm g1 hne1] at m1
      rcases Hp.get_push h2 with ⟨e2, rfl⟩ | ⟨hne2, h2'⟩
      · have e2 : g2 = h.n := e2
        simp only [Ph.set, if_pos e2, if_neg hne1] at hk ⊢
        exact apart g1 c1 h1' hng1 o1 m1 k hk
      · have hne2 : g2 ≠ h.n := hne2
        obtain ⟨hng2, h2'⟩ := Hp.get_del h2'
        rw [hm g2 hne2] at m2
        simp only [Ph.set, if_neg hne1, if_neg hne2] at hk ⊢
        exact H.dis g1 g2 c1 c2 h1' h2' hne o1 o2 m1 m2 k hk
  · rcases Hp.get_push h1 with ⟨e, rfl⟩ | ⟨hne, h1'⟩
    · have e : g' = h.n := e
      simp only [Ph.set, if_pos e] at hk
      rcases hS k hk with h' | h'
      · exact hlow k h'
      · omega
    · have hne : g' ≠ h.n := hne
      obtain ⟨hng, h1'⟩ := Hp.get_del h1'
      simp only [Ph.set, if_neg hne] at hk
      rw [hm g' hne] at m1
      exact H.fresh g' c1 h1' o1 m1 k hk
  · show g' < h.n + 1
    by_cases e : g' = h.n
    · omega
    · rw [hm g' e] at hp'
      have := H.dom g' p' hp'
      omega
/-- a block more -/
theorem new (H : SR O w0 w m φ h) {c' : AB O.X} {q : Pl} {S' : Nat → Prop} (hu : Below w.heap.size w w') (hb : BlkOK O w0 w' (m.set h.n q) q S' c') (hS : c'.own = true → ∀ k, S' k → w.heap.size ≤ k) :
    SR O w0 w' (m.set h.n q) (φ.set h.n S') (h.push c') := by
  have hsz := H.below.size
  have hn := H.none_n
  have hext := Mu.ext_set hn q
  have hm : ∀ g', g' ≠ h.n → m.set h.n q g' = m g' := fun g' hne => by simp [Mu.set, hne]
  refine ⟨below_upd H.below (Upd.of_below (S := NoBlock) hu) (fun b hb => hb.elim), fun g' c1 h1 p' hp' => ?_, fun g1 g2 c1 c2 h1 h2 hne o1 o2 m1 m2 k hk => ?_, fun g' c1 h1 o1 m1 k hk => ?_, fun g' p' hp' => ?_⟩
  · rcases Hp.get_push h1 with ⟨rfl, rfl⟩ | ⟨hne, h1'⟩
    · rw [Mu.set_self] at hp'; cases hp'
      simp only [Ph.set, if_pos]
      exact hb
    · rw [hm g' hne] at hp'
      simp only [Ph.set, if_neg hne]
      exact ((H.blk g' c1 h1' p' hp').ext hext).same fun ho k hk => hu.block k ((H.blk g' c1 h1' p' hp').lt ho hk)
  · have old : ∀ g c, h.get g = some c → g ≠ h.n → c.own = true → (m.set h.n q g).isSome = true → ∀ k, φ g k → k < w.heap.size := fun g c hg hne o hi k hk => by
      rw [hm g hne] at hi
      obtain ⟨p', hp'⟩ := Option.isSome_iff_exists.1 hi
      exact (H.blk g c hg p' hp').lt o hk
    rcases Hp.get_push h1 with ⟨e1, rfl⟩ | ⟨hne1, h1'⟩
    · rcases Hp.get_push h2 with ⟨e2, rfl⟩ | ⟨hne2, h2'⟩
      · exact absurd (e1.trans e2.symm) hne
      · simp only [Ph.set, if_pos e1, if_neg hne2] at hk ⊢
        intro hk'
        have h3 := old g2 c2 h2' hne2 o2 m2 k hk'
        have h4 := hS o1 k hk
        omega
    · rcases Hp.get_push h2 with ⟨e2, rfl⟩ | ⟨hne2, h2'⟩
      · simp only [Ph.set, if_pos e2, if_neg hne1] at hk ⊢
        intro hk'
        have h3 := old g1 c1 h1' hne1 o1 m1 k hk
        have h4 := hS o2 k hk'
        omega
      · rw [hm g1 hne1] at m1
        rw [hm g2 hne2] at m2
        simp only [Ph.set, if_neg hne1, if_neg hne2] at hk ⊢
        exact H.dis g1 g2 c1 c2 h1' h2' hne o1 o2 m1 m2 k hk
  · rcases Hp.get_push h1 with ⟨e, rfl⟩ | ⟨hne, h1'⟩
    · simp only [Ph.set, if_pos e] at hk
      have := hS o1 k hk
      omega
    · simp only [Ph.set, if_neg hne] at hk
      rw [hm g' hne] at m1
      exact H.fresh g' c1 h1' o1 m1 k hk
  · show g' < h.n + 1
    by_cases e : g' = h.n
    · omega
    · rw [hm g' e] at hp'
      have := H.dom g' p' hp'
      omega
/-- reading -/
theorem row (H : SR O w0 w m φ h) {g : Nat} {l : List AV} {p : Pl} (hp : m g = some p) (hg : h.get g = some (.rw l) ∨ h.get g = some (.ro l)) :
    RowR m l (fun i => w.cell? ⟨p.b, p.s + i, none⟩) ∧ p.s + l.length ≤ p.e := by
  rcases hg with hg | hg
  · obtain ⟨cs, ty, fz, h1, _, _, h4, h5, _⟩ := H.blk g _ hg p hp
    refine ⟨fun i v hi => ?_, h4⟩
    obtain ⟨v', a, b⟩ := h5 i v hi
    exact ⟨v', by simp only [World.cell?, h1]; exact a, b⟩
  · obtain ⟨h1, h2, h3⟩ := H.blk g _ hg p hp
    refine ⟨fun i v hi => ?_, h2⟩
    obtain ⟨v', a, b⟩ := h3 i v hi
    exact ⟨v', (H.below.cell (p := ⟨p.b, p.s + i, none⟩) h1).trans a, b⟩
end SR
end Am
end Go.Proofs.Ytmfobcejnkakpaa
