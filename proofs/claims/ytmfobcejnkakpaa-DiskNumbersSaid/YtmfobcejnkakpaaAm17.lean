/- The plain machine: a region that draws its order: whatever the order, what the fixed one gives. -/
import Derived.Test.YtmfobcejnkakpaaAm16
namespace Go.Proofs.Ytmfobcejnkakpaa
set_option linter.unusedVariables false
set_option linter.unusedSimpArgs false
namespace Am
open Go.RowKit
set_option maxRecDepth 10000
variable {P : Program}

/-- what a compiled region that draws must be: idx: the operations in the fixed order; anc: which of those ahead each one waits for -/
structure DrSt (P : Program) (keep : List Nat) (nt : Nat) (ops : Array Oper) (S : Nat → St1) (C : Nat → List Nat) (I : Nat → Nat) (A : Nat → List Nat) : Prop where
  mixed : P.follows .mixedOrders = true
  lt : ∀ p, p < ops.size → I p < ops.size
  onto : ∀ i, i < ops.size → ∃ p, p < ops.size ∧ I p = i
  inj : ∀ p q, p < ops.size → q < ops.size → I p = I q → p = q
  st : ∀ p o, p < ops.size → ops[I p]? = some o → StOK P keep nt ops o (S p) ∧ (∀ f, (S p).o = .eff f → f.isAlc = true → AlcOK P keep o f) ∧ (∀ m, (S p).o = .mov m → MvOK P keep o m)
  -- edges go back
  edge : ∀ p o e, p < ops.size → ops[I p]? = some o → e ∈ o.after → Region.binds .any e = true → ∃ q, q < p ∧ I q = e.on
  -- those that are waited for are waited for indeed
  anc : ∀ p o q, p < ops.size → ops[I p]? = some o → q ∈ A p → ∃ e r, e ∈ o.after ∧ Region.binds .any e = true ∧ r < p ∧ I r = e.on ∧ (q = r ∨ q ∈ A r)
  bar : ∀ q p, q < p → p < ops.size → (S q).o.df = false → q ∈ A p
  reads : ∀ p q x, p < ops.size → q < ops.size → p ≠ q → x ∈ (S p).ods → hits (S q).d x = true → (q ∈ A p ∧ q < p) ∨ (p ∈ A q ∧ p < q)
  once : ∀ p q, p < ops.size → q < ops.size → p ≠ q → clash (S p).d (S q).d = false
  dsl : ∀ p i, p < ops.size → (S p).d = .slot i → i < keep.length
  chk : ∀ p q, p < ops.size → q < p → (S p).o.isMov = false → (S q).o.df = true → (∀ b, b ≤ p → (S b).o.df = false → q ∉ A b) → q ∈ C p

section
variable {O : Objs} {D : Dp O.X} {w0 : World} {keep : List Nat} {nt : Nat} {ds : List Deferred} {m0 : Mu} {n0 : Nat} {ops : Array Oper} {S : Nat → St1} {C : Nat → List Nat} {I : Nat → Nat} {A : Nat → List Nat} {t0 : List AV} {h0 : Hp O.X}

theorem cst_len (hlen : t0.length = keep.length) : ∀ p, (cst D S t0 h0 p).2.1.length = keep.length
  | 0 => hlen
  | p + 1 => by
    have := cst_len hlen p
    show (putT _ _ _).length = _
    cases (S p).d <;> simp only [putT] <;> first | exact this | (rw [len_setS]; exact this)
/-- what an operand reads in the fixed order -/
theorem cst_ev (hS : DrSt P keep nt ops S C I A) (hlen : t0.length = keep.length) (x : Od) : ∀ p, p ≤ ops.size →
    ((∀ q, q < p → hits (S q).d x = false) ∧ x.ev (cst D S t0 h0 p).1 (cst D S t0 h0 p).2.1 = x.ev [] t0) ∨
    ∃ q, q < p ∧ hits (S q).d x = true ∧ x.ev (cst D S t0 h0 p).1 (cst D S t0 h0 p).2.1 = (sv D (S q) (cst D S t0 h0 q).1 (cst D S t0 h0 q).2.1 (cst D S t0 h0 q).2.2).1
  | 0, _ => .inl ⟨fun q hq => absurd hq (Nat.not_lt_zero _), rfl⟩
  | p + 1, hp => by
    have hput : x.ev (cst D S t0 h0 (p + 1)).1 (cst D S t0 h0 (p + 1)).2.1 = bif hits (S p).d x then (sv D (S p) (cst D S t0 h0 p).1 (cst D S t0 h0 p).2.1 (cst D S t0 h0 p).2.2).1 else x.ev (cst D S t0 h0 p).1 (cst D S t0 h0 p).2.1 :=
      ev_put (fun i hi => by rw [cst_len hlen]; exact hS.dsl p i (by omega) hi)
    cases hh : hits (S p).d x with
    | true => rw [hh] at hput; exact .inr ⟨p, by omega, hh, hput⟩
    | false =>
      rw [hh] at hput
      rcases cst_ev hS hlen x p (by omega) with ⟨h1, h2⟩ | ⟨q, h1, h2, h3⟩
      · exact .inl ⟨fun q hq => by by_cases e : q = p; (rw [e]; exact hh); exact h1 q (by omega), hput.trans h2⟩
      · exact .inr ⟨q, by omega, h2, hput.trans h3⟩

/-- an order under way: L: what has been carried out; k: how far the fixed order has been followed -/
structure Inv (P : Program) (O : Objs) (D : Dp O.X) (w0 : World) (keep : List Nat) (nt : Nat) (ds : List Deferred) (m0 : Mu) (n0 : Nat) (ops : Array Oper) (S : Nat → St1) (I : Nat → Nat) (A : Nat → List Nat) (t0 : List AV) (h0 : Hp O.X) (L : Nat → Bool) (k : Nat) (e : En) (t : List AV) (listed : Array Bool) (a : Act) (w : World) : Prop where
  size : listed.size = ops.size
  lst : ∀ p, p < ops.size → listed.getD (I p) true = L p ∧ listed.getD (I p) false = L p
  kle : k ≤ ops.size
  kbar : k = ops.size ∨ (S k).o.df = false
  low : ∀ p, p < k → (S p).o.df = false → L p = true
  high : ∀ p, k ≤ p → p < ops.size → L p = false
  closed : ∀ p q, p < ops.size → L p = true → q ∈ A p → L q = true
  tlen : t.length = keep.length
  env : ∀ x : Od, ((∀ q, q < ops.size → L q = true → hits (S q).d x = false) ∧ x.ev e t = x.ev [] t0) ∨
    ∃ q, q < ops.size ∧ L q = true ∧ hits (S q).d x = true ∧ x.ev e t = (sv D (S q) (cst D S t0 h0 q).1 (cst D S t0 h0 q).2.1 (cst D S t0 h0 q).2.2).1
  stab : ∀ p, p < k → L p = false → Stab D S t0 h0 p (cst D S t0 h0 k).2.2
  mono : ∀ p, p < k → (cst D S t0 h0 p).2.2.n ≤ (cst D S t0 h0 (p + 1)).2.2.n
  mem : ∃ m φ, (∀ g, g < n0 → m g = m0 g) ∧ n0 ≤ (cst D S t0 h0 k).2.2.n ∧ SR O w0 w m φ (cst D S t0 h0 k).2.2 ∧ FR m keep nt e t a ∧ a.defers = ds ∧
    (∀ p, p < k → L p = false → (S p).o.isAlc = true → gdv (S p).g (cst D S t0 h0 p).1 (cst D S t0 h0 p).2.1 = some true → m (cst D S t0 h0 p).2.2.n = none ∧ n0 ≤ (cst D S t0 h0 p).2.2.n ∧ (cst D S t0 h0 p).2.2.n < (cst D S t0 h0 k).2.2.n)

/-- an operation that is ready reads what it reads in the fixed order -/
theorem reads_same (hS : DrSt P keep nt ops S C I A) (hlen : t0.length = keep.length) {L : Nat → Bool} {k : Nat} {e : En} {t : List AV} {listed : Array Bool} {a : Act} {w : World} (hI : Inv P O D w0 keep nt ds m0 n0 ops S I A t0 h0 L k e t listed a w)
    {p : Nat} (hp : p < ops.size) (hL : L p = false) (hanc : ∀ q ∈ A p, L q = true) : ∀ x ∈ (S p).ods, x.ev e t = x.ev (cst D S t0 h0 p).1 (cst D S t0 h0 p).2.1 := by
  intro x hx
  -- a writer that has been carried out stands ahead of p
  have ahead : ∀ q, q < ops.size → hits (S q).d x = true → (L q = true ↔ q < p) := by
    intro q hq hh
    have hne : p ≠ q ∨ p = q := by omega
    rcases hne with hne | rfl
    · rcases hS.reads p q x hp hq hne hx hh with ⟨h1, h2⟩ | ⟨h1, h2⟩
      · exact ⟨fun _ => h2, fun _ => hanc q h1⟩
      · refine ⟨fun hq' => ?_, fun h => by omega⟩
        have := hI.closed q p hq hq' h1
        rw [hL] at this; cases this
    · exact ⟨(fun h => by rw [hL] at h; cases h), fun h => absurd h (Nat.lt_irrefl _)⟩
  rcases hI.env x with ⟨h1, h2⟩ | ⟨q, h1, h2, h3, h4⟩
  · rcases cst_ev (h0 := h0) (D := D) hS hlen x p (by omega) with ⟨g1, g2⟩ | ⟨q, g1, g2, g3⟩
    · rw [h2, g2]
    · have := h1 q (by omega) ((ahead q (by omega) g2).2 g1)
      rw [g2] at this; cases this
  · rcases cst_ev (h0 := h0) (D := D) hS hlen x p (by omega) with ⟨g1, g2⟩ | ⟨q', g1, g2, g3⟩
    · have := g1 q ((ahead q h1 h3).1 h2)
      rw [h3] at this; cases this
    · have : q = q' := by
        by_cases e : q = q'
        · exact e
        · have := hS.once q q' h1 (by omega) e
          rw [hits_clash h3 g2] at this; cases this
      subst this
      rw [h4, g3]
theorem gdv_congr {s : St1} {e e' : En} {t t' : List AV} (h : ∀ x ∈ s.ods, x.ev e t = x.ev e' t') : gdv s.g e t = gdv s.g e' t' := by
  cases s with
  | mk g d o =>
    cases g with
    | none => rfl
    | some jw =>
      obtain ⟨j, want⟩ := jw
      simp only [St1.g, gdv]
      rw [h j (by simp [St1.ods, St1.g])]
theorem o_congr {s : St1} {e e' : En} {t t' : List AV} (h : ∀ x ∈ s.ods, x.ev e t = x.ev e' t') : ∀ x ∈ s.o.ods, x.ev e t = x.ev e' t' := fun x hx => h x (by simp [St1.ods, hx])

theorem SR.ghost {w : World} {m : Mu} {φ : Ph} {h : Hp O.X} (H : SR O w0 w m φ h) (c : AB O.X) : SR O w0 w m φ (h.push c) := by
  have hn := H.none_n
  have no : ∀ {g : Nat} {x : AB O.X}, (h.push c).get g = some x → (m g).isSome = true → h.get g = some x := fun {g x} hg hm => by
    rcases Hp.get_push hg with ⟨rfl, _⟩ | ⟨_, h'⟩
    · rw [hn] at hm; cases hm
    · exact h'
  refine ⟨H.below, fun g x hg p hp => H.blk g x (no hg (by rw [hp]; rfl)) p hp, fun g g' x x' hg hg' hne o o' hm hm' => H.dis g g' x x' (no hg hm) (no hg' hm') hne o o' hm hm', fun g x hg o hm => H.fresh g x (no hg hm) o hm, fun g p hp => ?_⟩
  have := H.dom g p hp
  show g < h.n + 1
  omega
/-- a block that was told ahead of its being laid -/
theorem SR.realize {w : World} {m : Mu} {φ : Ph} {h : Hp O.X} (H : SR O w0 w m φ h) {g : Nat} {l : List AV} (hg : h.get g = some (.rw l)) (hm : m g = none) (hlt : g < h.n) {cs : Array Value} {ty : TypeId} {z : Nat} (hv : VRs m l cs.toList) (h1 : ∀ a ∈ l, a.one = true) :
    SR O w0 (w.alloc (.cells cs ty)) (m.set g ⟨w.heap.size, 0, cs.size, z⟩) (φ.set g fun k => k = w.heap.size) h := by
  have hsz := H.below.size
  have hext := Mu.ext_set hm ⟨w.heap.size, 0, cs.size, z⟩
  have hmo : ∀ g', g' ≠ g → m.set g ⟨w.heap.size, 0, cs.size, z⟩ g' = m g' := fun g' hne => by simp [Mu.set, hne]
  have hb : Below w.heap.size w (w.alloc (.cells cs ty)) := (Below.refl _ _).alloc (Nat.le_refl _) _
  have old : ∀ g' c, h.get g' = some c → g' ≠ g → c.own = true → (m.set g ⟨w.heap.size, 0, cs.size, z⟩ g').isSome = true → ∀ k, φ g' k → k < w.heap.size := fun g' c hg' hne o hi k hk => by
    rw [hmo g' hne] at hi
    obtain ⟨p', hp'⟩ := Option.isSome_iff_exists.1 hi
    exact (H.blk g' c hg' p' hp').lt o hk
  have hlen : cs.size = l.length := by have := hv.len; simpa using this
  refine ⟨below_upd H.below (Upd.of_below (S := NoBlock) hb) (fun b hb => hb.elim), fun g' c h1' p' hp' => ?_, fun g1 g2 c1 c2 e1 e2 hne o1 o2 m1 m2 k hk => ?_, fun g' c e1 o1 m1 k hk => ?_, fun g' p' hp' => ?_⟩
  · by_cases e : g' = g
    · subst e
      rw [Mu.set_self] at hp'; cases hp'
      rw [hg] at h1'; cases h1'
      simp only [Ph.set, if_pos]
      refine ⟨cs, ty, (0, 0), heap_alloc_new w _, .inl rfl, Nat.le_refl _, by show 0 + l.length ≤ cs.size; omega, fun i v hi => ?_, fun k => Iff.rfl, fun _ => rfl⟩
      obtain ⟨v', d1, d2⟩ := hv.get hi
      exact ⟨v', by simpa using d1, d2.ext hext, h1 _ (List.mem_of_getElem? hi)⟩
    · rw [hmo g' e] at hp'
      simp only [Ph.set, if_neg e]
      exact ((H.blk g' c h1' p' hp').ext hext).same fun ho k hk => hb.block k ((H.blk g' c h1' p' hp').lt ho hk)
  · by_cases x1 : g1 = g
    · by_cases x2 : g2 = g
      · exact absurd (x1.trans x2.symm) hne
      · simp only [Ph.set, if_pos x1, if_neg x2] at hk ⊢
        intro hk'
        have := old g2 c2 e2 x2 o2 m2 k hk'
        omega
    · by_cases x2 : g2 = g
      · simp only [Ph.set, if_pos x2, if_neg x1] at hk ⊢
        intro hk'
        have := old g1 c1 e1 x1 o1 m1 k hk
        omega
      · rw [hmo g1 x1] at m1
        rw [hmo g2 x2] at m2
        simp only [Ph.set, if_neg x1, if_neg x2] at hk ⊢
        exact H.dis g1 g2 c1 c2 e1 e2 hne o1 o2 m1 m2 k hk
  · by_cases e : g' = g
    · simp only [Ph.set, if_pos e] at hk
      omega
    · simp only [Ph.set, if_neg e] at hk
      rw [hmo g' e] at m1
      exact H.fresh g' c e1 o1 m1 k hk
  · by_cases e : g' = g
    · omega
    · rw [hmo g' e] at hp'
      exact H.dom g' p' hp'

/-- the heap behind an operation that writes nothing of what is there -/
theorem heap_df (hG : Good D S C ops.size t0 h0) {p : Nat} (hp : p < ops.size) (hd : (S p).o.df = true) :
    ((cst D S t0 h0 (p + 1)).2.2 = (cst D S t0 h0 p).2.2 ∧ ((S p).o.isAlc = true → gdv (S p).g (cst D S t0 h0 p).1 (cst D S t0 h0 p).2.1 = some false)) ∨ ((S p).o.isAlc = true ∧ ∃ c, (cst D S t0 h0 (p + 1)).2.2 = (cst D S t0 h0 p).2.2.push c) := by
  have e : (cst D S t0 h0 (p + 1)).2.2 = (sv D (S p) (cst D S t0 h0 p).1 (cst D S t0 h0 p).2.1 (cst D S t0 h0 p).2.2).2 := rfl
  rcases hG.run p hp with h | ⟨h1, h2⟩
  · left
    refine ⟨?_, fun _ => h⟩
    rw [e]
    simp only [sv, h]
  · cases ho : (S p).o with
    | mov m =>
      left
      refine ⟨?_, fun h => by cases h⟩
      rw [ho] at h2
      simp only [Op1.run] at h2
      split at h2
      · simp only [FRes.ret.injEq] at h2
        rw [e, ← h2.2]
      · cases h2
    | eff f =>
      right
      rw [ho] at hd h2
      have hf : f.isAlc = true := by simpa [Op1.df, Op1.isMov, Op1.isAlc] using hd
      refine ⟨hf, ?_⟩
      simp only [Op1.run, alc_ev hf] at h2
      split at h2
      · rename_i v h' heq
        simp only [FRes.ret.injEq] at h2
        rw [Option.map_eq_some_iff] at heq
        obtain ⟨x, _, hx⟩ := heq
        simp only [Prod.mk.injEq] at hx
        exact ⟨_, by rw [e, ← h2.2, ← hx.2]⟩
      · cases h2
    | call f xs => rw [ho] at hd; cases hd
    | calv f xs => rw [ho] at hd; cases hd
    | pan x => rw [ho] at hd; cases hd
theorem heap_n (hG : Good D S C ops.size t0 h0) {j : Nat} : ∀ {k : Nat}, j ≤ k → k ≤ ops.size → (∀ p, j ≤ p → p < k → (S p).o.df = true) → (cst D S t0 h0 j).2.2.n ≤ (cst D S t0 h0 k).2.2.n := by
  intro k hjk hk hd
  induction k with
  | zero =>
    have e : j = 0 := by omega
    rw [e]
    exact Nat.le_refl _
  | succ k ih =>
    by_cases e : j = k + 1
    · subst e; exact Nat.le_refl _
    · refine Nat.le_trans (ih (by omega) (by omega) (fun p h1 h2 => hd p h1 (by omega))) ?_
      rcases heap_df hG (p := k) (by omega) (hd k (by omega) (by omega)) with ⟨h, _⟩ | ⟨_, c, h⟩
      · rw [h]; exact Nat.le_refl _
      · rw [h]; exact Nat.le_succ _
theorem advance (hG : Good D S C ops.size t0 h0) {w : World} {m : Mu} {φ : Ph} {j : Nat} (H : SR O w0 w m φ (cst D S t0 h0 j).2.2) : ∀ {k : Nat}, j ≤ k → k ≤ ops.size → (∀ p, j ≤ p → p < k → (S p).o.df = true) → SR O w0 w m φ (cst D S t0 h0 k).2.2 := by
  intro k hjk hk hd
  induction k with
  | zero =>
    have e : j = 0 := by omega
    rw [e] at H
    exact H
  | succ k ih =>
    by_cases e : j = k + 1
    · subst e; exact H
    · have := ih (by omega) (by omega) (fun p h1 h2 => hd p h1 (by omega))
      rcases heap_df hG (p := k) (by omega) (hd k (by omega) (by omega)) with ⟨h, _⟩ | ⟨_, c, h⟩
      · rw [h]; exact this
      · rw [h]; exact SR.ghost this c
/-- what was told stands on -/
theorem stab_on (hS : DrSt P keep nt ops S C I A) (hG : Good D S C ops.size t0 h0) {q j : Nat} (hq : q < j) (hd : (S q).o.df = true) (H : Stab D S t0 h0 q (cst D S t0 h0 j).2.2) : ∀ {k : Nat}, j ≤ k → k ≤ ops.size → (∀ b, b < k → (S b).o.df = false → q ∉ A b) → Stab D S t0 h0 q (cst D S t0 h0 k).2.2 := by
  intro k hjk hk hb
  induction k with
  | zero => omega
  | succ k ih =>
    by_cases e : j = k + 1
    · subst e; exact H
    · have hprev := ih (by omega) (by omega) (fun b h1 h2 => hb b (by omega) h2)
      rcases hG.run k (by omega) with h | ⟨h1, h2⟩
      · have e2 : (cst D S t0 h0 (k + 1)).2.2 = (cst D S t0 h0 k).2.2 := by
          show (sv D (S k) _ _ _).2 = _
          simp only [sv, h]
        rw [e2]; exact hprev
      · by_cases hm : (S k).o.isMov = true
        · have hdf : (S k).o.df = true := by simp [Op1.df, hm]
          rcases heap_df hG (p := k) (by omega) hdf with ⟨h, _⟩ | ⟨h, _⟩
          · rw [h]; exact hprev
          · exfalso
            cases ho : (S k).o <;> rw [ho] at hm h <;> simp [Op1.isMov, Op1.isAlc] at hm h
        · exact hG.chk k (by omega) h1 q (hS.chk k q (by omega) (by omega) (by simpa using hm) hd (fun b h3 h4 => hb b (by omega) h4)) (by omega)

def upL (L : Nat → Bool) (p : Nat) : Nat → Bool := fun q => if q = p then true else L q
/-- one operation more has been carried out -/
theorem inv_next (hS : DrSt P keep nt ops S C I A) {L : Nat → Bool} {k k2 : Nat} {e : En} {t : List AV} {listed : Array Bool} {a a2 : Act} {w w2 : World} (hI : Inv P O D w0 keep nt ds m0 n0 ops S I A t0 h0 L k e t listed a w) {p : Nat} (hp : p < ops.size) (hL : L p = false) (hanc : ∀ q ∈ A p, L q = true)
    (hk : k ≤ k2) (hk2 : k2 ≤ ops.size) (hbar : k2 = ops.size ∨ (S k2).o.df = false) (hpk : p < k2) (hmid : ∀ q, k ≤ q → q < k2 → (S q).o.df = false → q = p)
    (hhigh : ∀ q, k2 ≤ q → q < ops.size → L q = false)
    (hstab : ∀ q, q < k2 → upL L p q = false → Stab D S t0 h0 q (cst D S t0 h0 k2).2.2)
    (hmono : ∀ q, k ≤ q → q < k2 → (cst D S t0 h0 q).2.2.n ≤ (cst D S t0 h0 (q + 1)).2.2.n)
    (hmem : ∃ m φ, (∀ g, g < n0 → m g = m0 g) ∧ n0 ≤ (cst D S t0 h0 k2).2.2.n ∧ SR O w0 w2 m φ (cst D S t0 h0 k2).2.2 ∧ FR m keep nt (putE (S p).d (sv D (S p) (cst D S t0 h0 p).1 (cst D S t0 h0 p).2.1 (cst D S t0 h0 p).2.2).1 e) (putT (S p).d (sv D (S p) (cst D S t0 h0 p).1 (cst D S t0 h0 p).2.1 (cst D S t0 h0 p).2.2).1 t) a2 ∧ a2.defers = ds ∧
      (∀ q, q < k2 → upL L p q = false → (S q).o.isAlc = true → gdv (S q).g (cst D S t0 h0 q).1 (cst D S t0 h0 q).2.1 = some true → m (cst D S t0 h0 q).2.2.n = none ∧ n0 ≤ (cst D S t0 h0 q).2.2.n ∧ (cst D S t0 h0 q).2.2.n < (cst D S t0 h0 k2).2.2.n)) :
    Inv P O D w0 keep nt ds m0 n0 ops S I A t0 h0 (upL L p) k2 (putE (S p).d (sv D (S p) (cst D S t0 h0 p).1 (cst D S t0 h0 p).2.1 (cst D S t0 h0 p).2.2).1 e) (putT (S p).d (sv D (S p) (cst D S t0 h0 p).1 (cst D S t0 h0 p).2.1 (cst D S t0 h0 p).2.2).1 t) (listed.setIfInBounds (I p) true) a2 w2 := by
  have hup : ∀ q, L q = true → upL L p q = true := fun q h => by unfold upL; split; rfl; exact h
  refine ⟨by rw [Array.size_setIfInBounds]; exact hI.size, fun q hq => ?_, hk2, hbar, fun q hq hd => ?_, fun q h1 h2 => ?_, fun q r hq hl hr => ?_, ?_, fun x => ?_, hstab, fun q hq => if h : q < k then hI.mono q h else hmono q (by omega) hq, hmem⟩
  · have hIp : I p < listed.size := by rw [hI.size]; exact hS.lt p hp
    have hIq : I q < listed.size := by rw [hI.size]; exact hS.lt q hq
    have hget : ∀ b, (listed.setIfInBounds (I p) true).getD (I q) b = if I p = I q then true else listed.getD (I q) b := fun b => by
      rw [Array.getD_eq_getD_getElem?, Array.getD_eq_getD_getElem?, Array.getElem?_setIfInBounds]
      by_cases h : I p = I q
      · rw [if_pos h, if_pos h]; simp [hIp]
      · rw [if_neg h, if_neg h]
    by_cases h : q = p
    · subst h
      rw [hget, hget]
      simp [upL]
    · have hne : I p ≠ I q := fun e => h (hS.inj p q hp hq e).symm
      rw [hget, hget, if_neg hne, if_neg hne]
      have := hI.lst q hq
      simp only [upL, if_neg h]
      exact this
  · by_cases h : q < k
    · exact hup q (hI.low q h hd)
    · have := hmid q (by omega) hq hd
      subst this
      simp [upL]
  · have hne : q ≠ p := by omega
    simp only [upL, if_neg hne]
    exact hhigh q h1 h2
  · by_cases h : q = p
    · subst h; exact hup r (hanc r hr)
    · simp only [upL, if_neg h] at hl
      exact hup r (hI.closed q r hq hl hr)
  · have := hI.tlen
    cases (S p).d <;> simp only [putT] <;> first | exact this | (rw [len_setS]; exact this)
  · have hput : x.ev (putE (S p).d (sv D (S p) (cst D S t0 h0 p).1 (cst D S t0 h0 p).2.1 (cst D S t0 h0 p).2.2).1 e) (putT (S p).d (sv D (S p) (cst D S t0 h0 p).1 (cst D S t0 h0 p).2.1 (cst D S t0 h0 p).2.2).1 t) = bif hits (S p).d x then (sv D (S p) (cst D S t0 h0 p).1 (cst D S t0 h0 p).2.1 (cst D S t0 h0 p).2.2).1 else x.ev e t :=
      ev_put (fun i hi => by rw [hI.tlen]; exact hS.dsl p i hp hi)
    cases hh : hits (S p).d x with
    | true => rw [hh] at hput; exact .inr ⟨p, hp, by simp [upL], hh, hput⟩
    | false =>
      rw [hh] at hput
      rcases hI.env x with ⟨h1, h2⟩ | ⟨q, h1, h2, h3, h4⟩
      · refine .inl ⟨fun q hq hl => ?_, hput.trans h2⟩
        by_cases e : q = p
        · rw [e]; exact hh
        · simp only [upL, if_neg e] at hl
          exact h1 q hq hl
      · exact .inr ⟨q, h1, hup q h2, h3, hput.trans h4⟩
/-- the next that is not to be put off -/
theorem next_bar (S : Nat → St1) (n : Nat) : ∀ (d j : Nat), j + d = n → ∃ k, j ≤ k ∧ k ≤ n ∧ (k = n ∨ (S k).o.df = false) ∧ ∀ p, j ≤ p → p < k → (S p).o.df = true
  | 0, j, h => ⟨j, Nat.le_refl _, by omega, .inl (by omega), fun p h1 h2 => by omega⟩
  | d + 1, j, h => by
    cases hd : (S j).o.df with
    | false => exact ⟨j, Nat.le_refl _, by omega, .inr hd, fun p h1 h2 => by omega⟩
    | true =>
      obtain ⟨k, h1, h2, h3, h4⟩ := next_bar S n d (j + 1) (by omega)
      refine ⟨k, by omega, h2, h3, fun p h5 h6 => ?_⟩
      by_cases e : p = j
      · rw [e]; exact hd
      · exact h4 p (by omega) h6
end
end Am
end Go.Proofs.Ytmfobcejnkakpaa
