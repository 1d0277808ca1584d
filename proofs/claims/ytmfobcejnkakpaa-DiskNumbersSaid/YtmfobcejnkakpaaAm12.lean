/- The plain machine: code, functions, the table of functions. -/
import Derived.Test.YtmfobcejnkakpaaAm11
namespace Go.Proofs.Ytmfobcejnkakpaa
set_option linter.unusedVariables false
set_option linter.unusedSimpArgs false
namespace Am
open Go.RowKit
set_option maxRecDepth 10000
variable {P : Program}

/-- a region that draws its order, in a fixed one: behind each operation which of those ahead of it must tell the same still -/
abbrev Dr := List (St1 × List Nat)
/-- code; 'dreg': a region that draws its order, carried out in a fixed one -/
inductive BC where
  | skip
  | reg (r : List St1)
  | dreg (r : Dr)
  | seq (a b : BC)
  | cond (x : Od) (a b : BC)
  | block (id : Nat) (b : BC)
  | loop (b : BC)
  | exit (id : Nat)
  | ret
def seqR {X : Type} (x : R X) (k : List AV → Hp X → R X) : R X := match x with | .norm t h => k t h | .brk n t h => .brk n t h | .ret t h => .ret t h | .panic v h => .panic v h | .bad => .bad
def blockR {X : Type} (id : Nat) (x : R X) : R X := match x with | .norm t h => .norm t h | .brk n t h => bif Nat.beq n id then .norm t h else .brk n t h | .ret t h => .ret t h | .panic v h => .panic v h | .bad => .bad
def condR {X : Type} (v : AV) (a b : R X) : R X := match v with | .bool c => bif c then a else b | _ => .bad
noncomputable def loopR {X : Type} (f : List AV → Hp X → R X) (n : Nat) : List AV → Hp X → R X :=
  Nat.rec (motive := fun _ => List AV → Hp X → R X) (fun _ _ => .bad) (fun _ ih t h => seqR (f t h) ih) n
noncomputable def BC.run {X : Type} (D : Dp X) (dr : Dr → List AV → Hp X → R X) (N : Nat) (b : BC) : List AV → Hp X → R X :=
  BC.rec (motive := fun _ => List AV → Hp X → R X) (fun t h => .norm t h) (fun r t h => runRg D r [] t h) (fun r t h => dr r t h) (fun _ _ fa fb t h => seqR (fa t h) fb) (fun x _ _ fa fb t h => condR (x.ev [] t) (fa t h) (fb t h))
    (fun id _ f t h => blockR id (f t h)) (fun _ f t h => loopR f N t h) (fun id t h => .brk id t h) (fun t h => .ret t h) b

section
variable {O : Objs} {w0 : World} {keep : List Nat} {nt : Nat} {ds : List Deferred} {m0 : Mu} {n0 : Nat}
/-- how a region that draws is carried out: told true -/
def DrOK (P : Program) (keep : List Nat) (nt : Nat) (dr : ∀ {X : Type}, Dp X → Dr → List AV → Hp X → R X) (c : Code) (r : Dr) : Prop :=
  ∀ {O : Objs} {D : Dp O.X}, DS P O D → ∀ {w0 : World} {ds : List Deferred} {m0 : Mu} {n0 : Nat} (t : List AV) (h : Hp O.X), dr D r t h ≠ .bad → ∀ (a : Act) (w : World), ST O w0 keep nt ds m0 n0 [] t h a w → c.wp P (QP O w0 keep nt ds m0 n0 (dr D r t h)) a w
def CS (P : Program) (keep : List Nat) (nt : Nat) (dr : ∀ {X : Type}, Dp X → Dr → List AV → Hp X → R X) (c : Code) (b : BC) : Prop :=
  ∀ {O : Objs} {D : Dp O.X}, DS P O D → ∀ (N : Nat) {w0 : World} {ds : List Deferred} {m0 : Mu} {n0 : Nat} (t : List AV) (h : Hp O.X), b.run D (dr D) N t h ≠ .bad → ∀ (a : Act) (w : World), ST O w0 keep nt ds m0 n0 [] t h a w →
    c.wp P (QP O w0 keep nt ds m0 n0 (b.run D (dr D) N t h)) a w
variable {dr : ∀ {X : Type}, Dp X → Dr → List AV → Hp X → R X}
theorem cs_skip : CS P keep nt dr .skip .skip := fun _ _ _ _ _ _ _ _ _ _ _ hst => wp_skip ⟨rfl, hst⟩
theorem cs_reg {id : Nat} {ops : Array Oper} {r : List St1} (hr : RgOK P keep nt ops ops.toList r) : CS P keep nt dr (.region id ops false) (.reg r) :=
  fun hD _ _ _ _ _ t h hb a w hst => wp_region_list (rg_ok hD hr [] t h a w hst hb)
theorem cs_dreg {c : Code} {r : Dr} (hr : DrOK P keep nt dr c r) : CS P keep nt dr c (.dreg r) :=
  fun hD _ _ _ _ _ t h hb a w hst => hr hD t h hb a w hst
theorem cs_exit {id : Nat} : CS P keep nt dr (.exit id) (.exit id) := fun _ _ _ _ _ _ _ _ _ _ _ hst => wp_exit ⟨rfl, hst⟩
theorem cs_ret : CS P keep nt dr .ret .ret := fun _ _ _ _ _ _ _ _ _ _ _ hst => wp_ret ⟨rfl, hst⟩
theorem cs_seq {c d : Code} {a b : BC} (h1 : CS P keep nt dr c a) (h2 : CS P keep nt dr d b) : CS P keep nt dr (.seq c d) (.seq a b) := by
  intro O D hD N w0 ds m0 n0 t h hb ac w hst
  have e : (BC.seq a b).run D (dr D) N t h = seqR (a.run D (dr D) N t h) (b.run D (dr D) N) := rfl
  rw [e] at hb ⊢
  have hx := h1 hD N t h (fun e => by rw [e] at hb; exact hb rfl) ac w hst
  refine wp_seq (wp_mono hx fun ex a' w' hq => ?_)
  cases hr : a.run D (dr D) N t h with
  | norm t' h' =>
    rw [hr] at hq hb
    obtain ⟨rfl, hst'⟩ := hq
    exact h2 hD N t' h' hb a' w' hst'
  | brk k t' h' => rw [hr] at hq; obtain ⟨rfl, hst'⟩ := hq; exact ⟨rfl, hst'⟩
  | ret t' h' => rw [hr] at hq; obtain ⟨rfl, hst'⟩ := hq; exact ⟨rfl, hst'⟩
  | panic v h' => rw [hr] at hq; obtain ⟨v', m, φ, rfl, r⟩ := hq; exact ⟨v', m, φ, rfl, r⟩
  | bad => rw [hr] at hb; exact absurd rfl hb
theorem cs_cond {x : Operand} {x' : Od} {c d : Code} {a b : BC} (hx : odOf keep x = some x') (h1 : CS P keep nt dr c a) (h2 : CS P keep nt dr d b) : CS P keep nt dr (.cond x c d) (.cond x' a b) := by
  intro O D hD N w0 ds m0 n0 t h hb ac w hst
  have e : (BC.cond x' a b).run D (dr D) N t h = condR (x'.ev [] t) (a.run D (dr D) N t h) (b.run D (dr D) N t h) := rfl
  rw [e] at hb ⊢
  obtain ⟨m, φ, g1, g2, g3, g4, g5⟩ := id hst
  have hv := g4.od hx
  cases hxe : x'.ev [] t with
  | bool v =>
    rw [hxe] at hv hb
    simp only [VR] at hv
    cases v with
    | true => exact wp_cond_true hv (h1 hD N t h hb ac w hst)
    | false => exact wp_cond_false hv (h2 hD N t h hb ac w hst)
  | _ => rw [hxe] at hb; exact absurd rfl hb
theorem cs_block {id : Nat} {c : Code} {a : BC} (h1 : CS P keep nt dr c a) : CS P keep nt dr (.block id c) (.block id a) := by
  intro O D hD N w0 ds m0 n0 t h hb ac w hst
  have e : (BC.block id a).run D (dr D) N t h = blockR id (a.run D (dr D) N t h) := rfl
  rw [e] at hb ⊢
  have hx := h1 hD N t h (fun e => by rw [e] at hb; exact hb rfl) ac w hst
  refine wp_block (wp_mono hx fun ex a' w' hq => ?_)
  cases hr : a.run D (dr D) N t h with
  | norm t' h' => rw [hr] at hq; obtain ⟨rfl, hst'⟩ := hq; exact ⟨rfl, hst'⟩
  | brk k t' h' =>
    rw [hr] at hq
    obtain ⟨rfl, hst'⟩ := hq
    show if k = id then QP O w0 keep nt ds m0 n0 (blockR id (.brk k t' h')) .normal a' w' else QP O w0 keep nt ds m0 n0 (blockR id (.brk k t' h')) (.exit k) a' w'
    by_cases hk : k = id
    · rw [if_pos hk]
      simp only [blockR, hk, Nat.beq_refl, cond_true]
      exact ⟨rfl, hst'⟩
    · rw [if_neg hk]
      simp only [blockR, nbeq hk, cond_false]
      exact ⟨rfl, hst'⟩
  | ret t' h' => rw [hr] at hq; obtain ⟨rfl, hst'⟩ := hq; exact ⟨rfl, hst'⟩
  | panic v h' => rw [hr] at hq; obtain ⟨v', m, φ, rfl, r⟩ := hq; exact ⟨v', m, φ, rfl, r⟩
  | bad => rw [hr] at hb; exact absurd rfl hb
theorem cs_loop {c : Code} {a : BC} (h1 : CS P keep nt dr c a) : CS P keep nt dr (.loop c) (.loop a) := by
  intro O D hD N w0 ds m0 n0 t h hb ac w hst
  have e : (BC.loop a).run D (dr D) N t h = loopR (a.run D (dr D) N) N t h := rfl
  rw [e] at hb ⊢
  have key : ∀ n t h, loopR (a.run D (dr D) N) n t h ≠ .bad → ∀ ac w, ST O w0 keep nt ds m0 n0 [] t h ac w → Code.rounds P c (QP O w0 keep nt ds m0 n0 (loopR (a.run D (dr D) N) n t h)) n ac w := by
    intro n
    induction n with
    | zero => intro t h hb; exact absurd rfl hb
    | succ n ih =>
      intro t h hb ac w hst
      have e : loopR (a.run D (dr D) N) (n + 1) t h = seqR (a.run D (dr D) N t h) (loopR (a.run D (dr D) N) n) := rfl
      rw [e] at hb ⊢
      have hx := h1 hD N t h (fun e => by rw [e] at hb; exact hb rfl) ac w hst
      rw [rounds_succ]
      refine wp_mono hx fun ex a' w' hq => ?_
      cases hr : a.run D (dr D) N t h with
      | norm t' h' =>
        rw [hr] at hq hb
        obtain ⟨rfl, hst'⟩ := hq
        exact ih t' h' hb a' w' hst'
      | brk k t' h' => rw [hr] at hq; obtain ⟨rfl, hst'⟩ := hq; exact ⟨rfl, hst'⟩
      | ret t' h' => rw [hr] at hq; obtain ⟨rfl, hst'⟩ := hq; exact ⟨rfl, hst'⟩
      | panic v h' => rw [hr] at hq; obtain ⟨v', m, φ, rfl, r⟩ := hq; exact ⟨v', m, φ, rfl, r⟩
      | bad => rw [hr] at hb; exact absurd rfl hb
  exact wp_loop_rounds N (key N t h hb ac w hst)
end

/-- one result, as the model reads it -/
def rsem (tmps : Array Value) : ResultVar → Sem Value
  | .tmp t => pure (tmps.getD t undef)
  | .cell x t => do loadVar t (← asAddr (tmps.getD x undef))
theorem results_eq (fn : Func) (tmps : Array Value) : results fn tmps = (do let vs ← fn.results.mapM (rsem tmps); pure (if h : vs.size = 1 then vs[0] else .tuple vs)) := by
  unfold results
  congr 2
inductive Rs where
  | slot (x : Od)
  | cell1 (x : Od)
  | celln (n : Nat) (x : Od)
noncomputable def Rs.ev {X : Type} (r : Rs) (t : List AV) (h : Hp X) : Option AV :=
  match r with
  | .slot x => some (x.ev [] t)
  | .cell1 x => (Mv.ld1 x).ev [] t h
  | .celln n x => (Mv.ldn n x).ev [] t h
noncomputable def resV {X : Type} (t : List AV) (h : Hp X) : List Rs → Option (List AV)
  | [] => some []
  | r :: l => match r.ev t h with | some v => (match resV t h l with | some b => some (v :: b) | none => none) | none => none
def packA (l : List AV) : AV := match l with | [v] => v | l => .tup l
/-- a function: how many slots; which are kept; its body; its results -/
structure BF where
  nt : Nat
  keep : List Nat
  body : BC
  res : List Rs
noncomputable def finR {X : Type} (rs : List Rs) (x : R X) : FRes X :=
  match x with
  | .norm t h => (match resV t h rs with | some l => .ret (packA l) h | none => .bad)
  | .ret t h => (match resV t h rs with | some l => .ret (packA l) h | none => .bad)
  | .panic v h => .panic v h
  | _ => .bad
noncomputable def BF.run {X : Type} (dr : Dp X → Dr → List AV → Hp X → R X) (N : Nat) (f : BF) (D : Dp X) (args : List AV) (h : Hp X) : FRes X :=
  bif Nat.ble args.length f.nt then finR f.res (f.body.run D (dr D) N (f.keep.map fun d => getS args d) h) else .bad

section
variable {O : Objs} {w0 : World} {keep : List Nat} {nt : Nat}
theorem loadVar_ok {w : World} {m : Mu} {φ : Ph} {h : Hp O.X} (hs : SR O w0 w m φ h) {ty : TypeId} {g off : Nat} {p : Pl} (hp : m g = some p) {v : AV}
    (hk : (∃ u, P.underlying ty = some u ∧ ((∀ x, u ≠ .struct x) ∧ ∀ n e, u ≠ .array n e) ∧ ∃ l, rowOf h g = some l ∧ getN l off = some v) ∨
      (∃ i, ((∃ x, P.underlying ty = some (.struct x)) ∨ ∃ n e, P.underlying ty = some (.array n e)) ∧ P.info? ty = some i ∧ ∃ l r, rowOf h g = some l ∧ takeN i.size off l = some r ∧ v = .agg r)) :
    ∃ v', VR m v v' ∧ (loadVar ty ⟨p.b, p.s + off, none⟩).run P w = .ok v' w := by
  rcases hk with ⟨u, hu, hna, l, hr, hv⟩ | ⟨i, hty, hi, l, r, hr, ht, rfl⟩
  · rw [getN_eq] at hv
    obtain ⟨hrow, _⟩ := hs.row hp (rowOf_some hr)
    obtain ⟨v', h3, h4, _⟩ := hrow _ _ hv
    refine ⟨v', h4, ?_⟩
    have hagg : (isAgg ty).run P w = .ok false w := by
      unfold isAgg
      simp only [Sem.run_bind, run_underlying hu, Result.andThen_ok]
      cases u <;> first | rfl | exact absurd rfl (hna.1 _) | exact absurd rfl (hna.2 _ _)
    have h3' : (load ⟨p.b, p.s + off, none⟩).run P w = .ok v' w := run_load_cell h3
    unfold loadVar
    simp only [Sem.run_bind, Result.andThen_ok, hagg, Bool.false_eq_true, if_false]
    exact h3'
  · obtain ⟨hrow, _⟩ := hs.row hp (rowOf_some hr)
    obtain ⟨vs, k1, k2, k3, _⟩ := row_vals hrow ht
    refine ⟨.agg vs.toArray, ⟨vs, rfl, k1⟩, ?_⟩
    have hagg : (isAgg ty).run P w = .ok true w := by
      unfold isAgg
      rcases hty with ⟨_, hty⟩ | ⟨_, _, hty⟩ <;> simp [run_underlying hty]
    have hload := run_loadCells_list (P := P) w ⟨p.b, p.s + off, none⟩ vs (fun j u hj => by rw [add_lit', Nat.add_assoc]; exact k3 j u hj)
    rw [k2] at hload
    unfold loadVar
    simp only [Sem.run_bind, Result.andThen_ok, hagg, if_true]
    simp [sizeOf, typeInfo, hi, hload]
/-- a result and its compiled form -/
inductive RsOK (P : Program) (keep : List Nat) : ResultVar → Rs → Prop where
  | slot {n x} : odOf keep (.tmp n) = some x → RsOK P keep (.tmp n) (.slot x)
  | cell1 {n x ty u} : odOf keep (.tmp n) = some x → P.underlying ty = some u → ((∀ x, u ≠ .struct x) ∧ ∀ n e, u ≠ .array n e) → RsOK P keep (.cell n ty) (.cell1 x)
  | celln {n x ty i} : odOf keep (.tmp n) = some x → ((∃ x, P.underlying ty = some (.struct x)) ∨ ∃ n e, P.underlying ty = some (.array n e)) → P.info? ty = some i → RsOK P keep (.cell n ty) (.celln i.size x)
theorem rs_ok {w : World} {m : Mu} {φ : Ph} {h : Hp O.X} {e : En} {t : List AV} {a : Act} (hs : SR O w0 w m φ h) (f : FR m keep nt [] t a) {rv : ResultVar} {r : Rs} (hr : RsOK P keep rv r) {v : AV} (hv : r.ev t h = some v) :
    ∃ v', VR m v v' ∧ (rsem a.tmps rv).run P w = .ok v' w := by
  cases hr with
  | slot hx => cases hv; exact ⟨_, f.od hx, rfl⟩
  | @cell1 n x ty u hx hu hna =>
    obtain ⟨g, off, hb, hv⟩ := AV.onPtr_some hv
    have h1 := f.od hx
    rw [hb] at h1
    simp only [VR] at h1
    obtain ⟨p, hp, h1⟩ := h1
    cases hr : rowOf h g with
    | none => rw [hr] at hv; cases hv
    | some l =>
      rw [hr] at hv
      obtain ⟨v', k1, k2⟩ := loadVar_ok (P := P) hs hp (.inl ⟨u, hu, hna, l, hr, hv⟩)
      refine ⟨v', k1, ?_⟩
      have h1 : a.tmps.getD n undef = .pointer (some ⟨p.b, p.s + off, none⟩) := h1
      simp only [rsem, h1, asAddr, Sem.run_bind, Sem.run_pure, Result.andThen_ok]
      exact k2
  | @celln n x ty i hx hty hi =>
    obtain ⟨g, off, hb, hv⟩ := AV.onPtr_some hv
    have h1 := f.od hx
    rw [hb] at h1
    simp only [VR] at h1
    obtain ⟨p, hp, h1⟩ := h1
    cases hr : rowOf h g with
    | none => rw [hr] at hv; cases hv
    | some l =>
      rw [hr] at hv
      simp only at hv
      cases ht : takeN i.size off l with
      | none => rw [ht] at hv; cases hv
      | some r =>
        rw [ht] at hv
        cases hv
        obtain ⟨v', k1, k2⟩ := loadVar_ok (P := P) hs hp (.inr ⟨i, hty, hi, l, r, hr, ht, rfl⟩)
        refine ⟨v', k1, ?_⟩
        have h1 : a.tmps.getD n undef = .pointer (some ⟨p.b, p.s + off, none⟩) := h1
        simp only [rsem, h1, asAddr, Sem.run_bind, Sem.run_pure, Result.andThen_ok]
        exact k2
inductive RssOK (P : Program) (keep : List Nat) : List ResultVar → List Rs → Prop where
  | nil : RssOK P keep [] []
  | cons {x r l s} : RsOK P keep x r → RssOK P keep l s → RssOK P keep (x :: l) (r :: s)
theorem rss_ok {w : World} {m : Mu} {φ : Ph} {h : Hp O.X} {t : List AV} {a : Act} (hs : SR O w0 w m φ h) (f : FR m keep nt [] t a) : ∀ {l : List ResultVar} {s : List Rs}, RssOK P keep l s → ∀ {vs : List AV}, resV t h s = some vs →
    ∃ vs', VRs m vs vs' ∧ (l.mapM (rsem a.tmps)).run P w = .ok vs' w
  | [], [], _, vs, hv => by cases hv; exact ⟨[], by simp [VRs], by simp⟩
  | x :: l, r :: s, hr, vs, hv => by
    cases hr with
    | cons h1 h2 =>
      simp only [resV] at hv
      cases he : r.ev t h with
      | none => rw [he] at hv; cases hv
      | some v =>
        rw [he] at hv
        simp only at hv
        cases hl : resV t h s with
        | none => rw [hl] at hv; cases hv
        | some b =>
          rw [hl] at hv
          cases hv
          obtain ⟨v', k1, k2⟩ := rs_ok (e := []) hs f h1 he
          obtain ⟨vs', k3, k4⟩ := rss_ok hs f h2 hl
          refine ⟨v' :: vs', by simp only [VRs]; exact ⟨v', vs', rfl, k1, k3⟩, ?_⟩
          rw [List.mapM_cons]
          simp only [Sem.run_bind, Sem.run_pure]
          rw [k2]
          simp only [Result.andThen_ok]
          rw [k4]
          rfl
theorem results_ok {w : World} {m : Mu} {φ : Ph} {h : Hp O.X} {t : List AV} {a : Act} (hs : SR O w0 w m φ h) (f : FR m keep nt [] t a) {fn : Func} {s : List Rs} (hr : RssOK P keep fn.results.toList s) {vs : List AV} (hv : resV t h s = some vs) :
    ∃ v', VR m (packA vs) v' ∧ (results fn a.tmps).run P w = .ok v' w := by
  obtain ⟨vs', k1, k2⟩ := rss_ok hs f hr hv
  have hm : (fn.results.mapM (rsem a.tmps)).run P w = .ok vs'.toArray w := by
    rw [Array.mapM_eq_mapM_toList, Sem.run_map, k2]
    rfl
  have hlen := k1.len
  rw [results_eq, Sem.run_bind, hm]
  simp only [Result.andThen_ok, Sem.run_pure]
  match vs, vs', k1, hlen with
  | [], [], k1, _ => exact ⟨.tuple #[], by simp only [packA, VR]; exact ⟨[], rfl, k1⟩, by simp⟩
  | [v], [v'], k1, _ =>
    simp only [VRs] at k1
    obtain ⟨a1, b1, e1, e2, e3⟩ := k1
    cases e1
    exact ⟨v', e2, by simp⟩
  | v :: v2 :: r, l, k1, hlen =>
    refine ⟨.tuple l.toArray, by simp only [packA, VR]; exact ⟨l, rfl, k1⟩, ?_⟩
    rw [dif_neg (by simp [hlen])]
end

/-- a function of the table -/
abbrev Fn (X : Type) := Dp X → List AV → Hp X → FRes X
def FnOK (P : Program) (O : Objs) (f : Nat) (F : Fn O.X) : Prop :=
  callable P f = true ∧ ∀ {D : Dp O.X}, DS P O D → ∀ args h, F D args h ≠ .bad → ∀ {w0 w : World} {m : Mu} {φ : Ph} {args' : List Value}, SR O w0 w m φ h → VRs m args args' → Calls P f args'.toArray w (FPost O w0 m h (F D args h))
def callO {X : Type} (o : Option (Fn X)) (D : Dp X) (args : List AV) (h : Hp X) : FRes X := match o with | some F => F D args h | none => .bad
noncomputable def disp {X : Type} (tab : Nat → Option (Fn X)) (n : Nat) : Dp X :=
  Nat.rec (motive := fun _ => Dp X) (fun _ _ _ => .bad) (fun _ ih f args h => callO (tab f) ih args h) n
theorem disp_ok {O : Objs} {tab : Nat → Option (Fn O.X)} (ht : ∀ f F, tab f = some F → FnOK P O f F) : ∀ n, DS P O (disp tab n)
  | 0 => fun f args h hb => absurd rfl hb
  | n + 1 => fun f args h hb => by
    have e : disp tab (n + 1) f args h = callO (tab f) (disp tab n) args h := rfl
    rw [e] at hb ⊢
    cases hf : tab f with
    | none => rw [hf] at hb; exact absurd rfl hb
    | some F =>
      rw [hf] at hb
      obtain ⟨h1, h2⟩ := ht f F hf
      exact ⟨h1, h2 (disp_ok ht n) args h hb⟩

/-- a compiled function stands for its text -/
theorem fnok_bf {O : Objs} {dr : ∀ {X : Type}, Dp X → Dr → List AV → Hp X → R X} {f : Nat} {fn : Func} {c : Code} {b : BF} (N : Nat) (hc : callable P f = true) (hf : P.funcs[f]? = some fn) (hb : fn.body = some c) (hnt : fn.ntmps = b.nt) (hnd : b.keep.Nodup)
    (hlt : ∀ d ∈ b.keep, d < b.nt) (hcs : CS P b.keep b.nt dr c b.body) (hrs : RssOK P b.keep fn.results.toList b.res) : FnOK P O f (fun D args h => b.run dr N D args h) := by
  refine ⟨hc, fun {D} hD args h hbad {w0 w m φ args'} hs hv => ?_⟩
  have hbad' : (bif Nat.ble args.length b.nt then finR b.res (b.body.run D (dr D) N (b.keep.map fun d => getS args d) h) else .bad) ≠ .bad := hbad
  show Calls P f args'.toArray w (FPost O w0 m h (bif Nat.ble args.length b.nt then finR b.res (b.body.run D (dr D) N (b.keep.map fun d => getS args d) h) else .bad))
  cases hle : Nat.ble args.length b.nt with
  | false => rw [hle] at hbad'; exact absurd rfl hbad'
  | true =>
    rw [hle] at hbad'
    simp only [cond_true] at hbad' ⊢
    have hle := Nat.le_of_ble_eq_true hle
    have hlen := hv.len
    have hrb : b.body.run D (dr D) N (b.keep.map fun d => getS args d) h ≠ .bad := fun e => by rw [e] at hbad'; exact hbad' rfl
    refine calls_of_wp hf hb ?_
    have hfr : FR m b.keep b.nt [] (b.keep.map fun d => getS args d) { tmps := args'.toArray ++ Array.replicate (fn.ntmps - args'.toArray.size) undef, defers := [] } := by
      refine ⟨by rw [hnt]; simp; omega, by simp, hnd, fun d _ => by simp [lookE, VR], fun i d hi => ?_⟩
      have hg : getS (b.keep.map fun d => getS args d) i = getS args d := by
        have : ∀ (l : List Nat) (i : Nat), l[i]? = some d → getS (l.map fun d => getS args d) i = getS args d := by
          intro l
          induction l with
          | nil => intro i h; simp at h
          | cons x l ih =>
            intro i h
            cases i with
            | zero => simp at h; subst h; rfl
            | succ i => simp at h; exact ih i h
        exact this _ _ hi
      rw [hg]
      have hgs : ∀ (l : List AV) (d : Nat), getS l d = (l[d]?).getD .bot := by
        intro l
        induction l with
        | nil => intro d; cases d <;> rfl
        | cons x l ih => intro d; cases d with | zero => rfl | succ d => simpa [getS] using ih d
      rw [hgs]
      cases hd : args[d]? with
      | none => simp [VR]
      | some v =>
        obtain ⟨v', k1, k2⟩ := hv.get hd
        have hdl : d < args'.length := (List.getElem?_eq_some_iff.1 k1).1
        rw [Array.getD_eq_getD_getElem?, Array.getElem?_append_left (by simpa using hdl)]
        simpa [k1] using k2
    have hst : ST O w0 b.keep b.nt [] m h.n [] (b.keep.map fun d => getS args d) h { tmps := args'.toArray ++ Array.replicate (fn.ntmps - args'.toArray.size) undef, defers := [] } w := ⟨m, φ, fun _ _ => rfl, Nat.le_refl _, hs, hfr, rfl⟩
    refine wp_mono (hcs hD N _ h hrb _ w hst) fun ex a' w' hq => ?_
    have fin : ∀ t' h', (∀ l, resV t' h' b.res = some l → ST O w0 b.keep b.nt [] m h.n [] t' h' a' w' → a'.defers = [] ∧ ∃ v, (results fn a'.tmps).run P w' = .ok v w' ∧ FPost O w0 m h (.ret (packA l) h') (.returned v) w') := by
      intro t' h' l hl ⟨m', φ', g1, g2, g3, g4, g5⟩
      obtain ⟨v', k1, k2⟩ := results_ok g3 g4 hrs hl
      exact ⟨g5, v', k2, m', φ', v', g1, g2, g3, k1, rfl⟩
    cases hr : b.body.run D (dr D) N (b.keep.map fun d => getS args d) h with
    | norm t' h' =>
      rw [hr] at hq hbad'
      obtain ⟨rfl, hst'⟩ := hq
      simp only [finR] at hbad' ⊢
      cases hl : resV t' h' b.res with
      | none => rw [hl] at hbad'; exact absurd rfl hbad'
      | some l => exact fin t' h' l hl hst'
    | ret t' h' =>
      rw [hr] at hq hbad'
      obtain ⟨rfl, hst'⟩ := hq
      simp only [finR] at hbad' ⊢
      cases hl : resV t' h' b.res with
      | none => rw [hl] at hbad'; exact absurd rfl hbad'
      | some l => exact fin t' h' l hl hst'
    | brk k t' h' => rw [hr] at hbad'; exact absurd rfl hbad'
    | panic v h' =>
      rw [hr] at hq
      obtain ⟨v', m', φ', rfl, k1, k2, k3, k4, k5⟩ := hq
      exact ⟨k5, m', φ', v', k2, k3, k4, k1, rfl⟩
    | bad => exact absurd hr hrb
end Am
end Go.Proofs.Ytmfobcejnkakpaa
