/- The plain machine: regions, code, functions. -/
import Derived.Test.YtmfobcejnkakpaaAm10
import Derived.LoopN
namespace Go.Proofs.Ytmfobcejnkakpaa
set_option linter.unusedVariables false
set_option linter.unusedSimpArgs false
namespace Am
open Go.RowKit
set_option maxRecDepth 10000
variable {P : Program}

inductive FRes (X : Type) where
  | ret (v : AV) (h : Hp X)
  | panic (v : AV) (h : Hp X)
  | bad
inductive R (X : Type) where
  | norm (t : List AV) (h : Hp X)
  | brk (k : Nat) (t : List AV) (h : Hp X)
  | ret (t : List AV) (h : Hp X)
  | panic (v : AV) (h : Hp X)
  | bad
abbrev Dp (X : Type) := Nat → List AV → Hp X → FRes X

inductive Op1 where
  | mov (m : Mv)
  | eff (f : Ef)
  | call (f : Nat) (xs : List Od)
  | calv (f : Od) (xs : List Od)
  | pan (x : Od)
inductive St1 where
  | mk (g : Option (Od × Bool)) (d : Ds) (o : Op1)
noncomputable def Op1.run {X : Type} (D : Dp X) (o : Op1) (e : En) (t : List AV) (h : Hp X) : FRes X :=
  match o with
  | .mov m => (match m.ev e t h with | some v => .ret v h | none => .bad)
  | .eff f => (match f.ev e t h with | some (v, h') => .ret v h' | none => .bad)
  | .call f xs => D f (xs.map fun x => x.ev e t) h
  | .calv f xs => (match f.ev e t with | .func f cs => D f ((xs.map fun x => x.ev e t) ++ cs) h | _ => .bad)
  | .pan x => (match x.ev e t with | .iface ty v => .panic (.iface ty v) h | _ => .bad)
def stepR {X : Type} (x : FRes X) (k : AV → Hp X → R X) : R X := match x with | .ret v h => k v h | .panic v h => .panic v h | .bad => .bad
def gdv (g : Option (Od × Bool)) (e : En) (t : List AV) : Option Bool := match g with | none => some true | some (j, want) => (match j.ev e t with | .bool b => some (b == want) | _ => none)
def gdR {X : Type} (x : Option Bool) (a b : R X) : R X := match x with | some true => a | some false => b | none => .bad
noncomputable def runRg {X : Type} (D : Dp X) : List St1 → En → List AV → Hp X → R X
  | [], _, t, h => .norm t h
  | .mk g d o :: r, e, t, h => gdR (gdv g e t) (stepR (o.run D e t h) fun v h' => runRg D r (putE d v e) (putT d v t) h') (runRg D r (putE d .bot e) (putT d .bot t) h)

/-- may be called -/
def callable (P : Program) (f : Nat) : Bool := match P.funcs[f]? with | some fn => !(fn.name == "runtime.NumGoroutine") && fn.body.isSome | none => false
/-- what a call is to end in -/
def FPost (O : Objs) (w0 : World) (m : Mu) (h : Hp O.X) : FRes O.X → Ending → World → Prop
  | .ret v h', e, w' => ∃ m' φ' v', (∀ g, g < h.n → m' g = m g) ∧ h.n ≤ h'.n ∧ SR O w0 w' m' φ' h' ∧ VR m' v v' ∧ e = .returned v'
  | .panic v h', e, w' => ∃ m' φ' v', (∀ g, g < h.n → m' g = m g) ∧ h.n ≤ h'.n ∧ SR O w0 w' m' φ' h' ∧ VR m' v v' ∧ e = .panicked [{ v := v', recovered := false }]
  | .bad, _, _ => True
/-- a dispatcher that tells true of each function -/
def DS (P : Program) (O : Objs) (D : Dp O.X) : Prop :=
  ∀ f args h, D f args h ≠ .bad → callable P f = true ∧ ∀ {w0 w : World} {m : Mu} {φ : Ph} {args' : List Value}, SR O w0 w m φ h → VRs m args args' → Calls P f args'.toArray w (FPost O w0 m h (D f args h))

/-- a state of a function that was entered at (m0, n0) -/
def ST (O : Objs) (w0 : World) (keep : List Nat) (nt : Nat) (ds : List Deferred) (m0 : Mu) (n0 : Nat) (e : En) (t : List AV) (h : Hp O.X) (a : Act) (w : World) : Prop :=
  ∃ m φ, (∀ g, g < n0 → m g = m0 g) ∧ n0 ≤ h.n ∧ SR O w0 w m φ h ∧ FR m keep nt e t a ∧ a.defers = ds
/-- what a piece of code is to end in -/
def QP (O : Objs) (w0 : World) (keep : List Nat) (nt : Nat) (ds : List Deferred) (m0 : Mu) (n0 : Nat) : R O.X → Exit → Act → World → Prop
  | .norm t h, ex, a, w => ex = .normal ∧ ST O w0 keep nt ds m0 n0 [] t h a w
  | .brk k t h, ex, a, w => ex = .exit k ∧ ST O w0 keep nt ds m0 n0 [] t h a w
  | .ret t h, ex, a, w => ex = .ret ∧ ST O w0 keep nt ds m0 n0 [] t h a w
  | .panic v h, ex, a, w => ∃ v' m φ, ex = .panic [{ v := v', recovered := false }] ∧ VR m v v' ∧ (∀ g, g < n0 → m g = m0 g) ∧ n0 ≤ h.n ∧ SR O w0 w m φ h ∧ a.defers = ds
  | .bad, _, _, _ => True

section
variable {O : Objs} {D : Dp O.X} {w0 : World} {keep : List Nat} {nt : Nat} {ds : List Deferred} {m0 : Mu} {n0 : Nat}

def Op1OK (P : Program) (keep : List Nat) (o : Oper) (p : Op1) : Prop :=
  ∀ {O : Objs} {D : Dp O.X}, DS P O D → ∀ {w0 w : World} {m : Mu} {φ : Ph} {h : Hp O.X} {nt : Nat} {e : En} {t : List AV} {a : Act}, SR O w0 w m φ h → FR m keep nt e t a → p.run D e t h ≠ .bad →
    ∀ (K : Act → World → Prop) (Q : Exit → Act → World → Prop),
      (∀ v h', p.run D e t h = .ret v h' → ∀ m' φ' w' v', (∀ g, g < h.n → m' g = m g) → h.n ≤ h'.n → SR O w0 w' m' φ' h' → VR m' v v' → K (a.put o.dst v') w') →
      (∀ v h', p.run D e t h = .panic v h' → ∀ m' φ' w' v', (∀ g, g < h.n → m' g = m g) → h.n ≤ h'.n → SR O w0 w' m' φ' h' → VR m' v v' → Q (.panic [{ v := v', recovered := false }]) a w') → o.wp P a w K Q
theorem op1_mov {o : Oper} {mv : Mv} (h : MvOK P keep o mv) : Op1OK P keep o (.mov mv) := by
  intro O D hD w0 w m φ hp nt e t a hs hf hb K Q hK hQ
  simp only [Op1.run] at hb hK
  cases hv : mv.ev e t hp with
  | none => rw [hv] at hb; exact absurd rfl hb
  | some v =>
    rw [hv] at hK
    obtain ⟨v', h1, h2⟩ := h hs hf hv
    unfold Oper.wp
    rw [h2]
    exact hK v hp rfl m φ w v' (fun _ _ => rfl) (Nat.le_refl _) hs h1
theorem op1_eff {o : Oper} {ef : Ef} (h : EfOK P keep o ef) : Op1OK P keep o (.eff ef) := by
  intro O D hD w0 w m φ hp nt e t a hs hf hb K Q hK hQ
  simp only [Op1.run] at hb hK
  cases hv : ef.ev e t hp with
  | none => rw [hv] at hb; exact absurd rfl hb
  | some x =>
    obtain ⟨v, h'⟩ := x
    rw [hv] at hK
    obtain ⟨m', φ', w', v', h1, h2, h3, h4, h5⟩ := h hs hf hv
    unfold Oper.wp
    rcases h5 with h5 | ⟨h5, rfl⟩
    · rw [h5]; exact hK v h' rfl m' φ' w' v' h1 h2 h3 h4
    · rw [h5]; exact hK v h' rfl m' φ' w' _ h1 h2 h3 h4
theorem callable_some {f : Nat} (h : callable P f = true) : ∃ fn, P.funcs[f]? = some fn ∧ (fn.name == "runtime.NumGoroutine") = false ∧ fn.body.isNone = false := by
  unfold callable at h
  split at h
  · rename_i fn hf
    rw [Bool.and_eq_true] at h
    refine ⟨fn, hf, by simpa using h.1, ?_⟩
    cases hb : fn.body with
    | none => rw [hb] at h; cases h.2
    | some _ => rfl
  · cases h
theorem run_callFunc {f : Nat} (h : callable P f = true) (args : Array Value) (w : World) : (callFunc f args).run P w = .ok (.enter f args) w := by
  obtain ⟨fn, h1, h2, h3⟩ := callable_some h
  unfold callFunc
  simp only [Sem.run_bind, run_program, Result.andThen_ok, h1, h2, h3, Bool.false_eq_true, if_false, Sem.run_pure]
theorem call_wp {o : Oper} {f : Nat} {args : List AV} {args' : List Value} (hD : DS P O D) {w : World} {m : Mu} {φ : Ph} {h : Hp O.X} {a : Act} (hs : SR O w0 w m φ h) (hb : D f args h ≠ .bad) (hv : VRs m args args')
    (hrun : ∀ (_ : callable P f = true), (execOp a.eval o).run P w = .ok (.enter f args'.toArray) w) (K : Act → World → Prop) (Q : Exit → Act → World → Prop)
    (hK : ∀ v h', D f args h = .ret v h' → ∀ m' φ' w' v', (∀ g, g < h.n → m' g = m g) → h.n ≤ h'.n → SR O w0 w' m' φ' h' → VR m' v v' → K (a.put o.dst v') w')
    (hQ : ∀ v h', D f args h = .panic v h' → ∀ m' φ' w' v', (∀ g, g < h.n → m' g = m g) → h.n ≤ h'.n → SR O w0 w' m' φ' h' → VR m' v v' → Q (.panic [{ v := v', recovered := false }]) a w') : o.wp P a w K Q := by
  obtain ⟨h1, h2⟩ := hD f args h hb
  unfold Oper.wp
  rw [hrun h1, Oper.upon_enter]
  refine (h2 hs hv).mono fun e w' hp => ?_
  cases hd : D f args h with
  | bad => exact absurd hd hb
  | ret v h' =>
    rw [hd] at hp
    obtain ⟨m', φ', v', a1, a2, a3, a4, rfl⟩ := hp
    exact hK v h' hd m' φ' w' v' a1 a2 a3 a4
  | panic v h' =>
    rw [hd] at hp
    obtain ⟨m', φ', v', a1, a2, a3, a4, rfl⟩ := hp
    exact hQ v h' hd m' φ' w' v' a1 a2 a3 a4
theorem op1_call {o : Oper} {f : FuncId} {xs : Array Operand} {tys : Array TypeId} {xs' : List Od} (ho : o.op = .call { callee := .value (.func f), args := xs, argTypes := tys }) (hx : xs.toList.mapM (odOf keep) = some xs') : Op1OK P keep o (.call f xs') := by
  intro O D hD w0 w m φ hp nt e t a hs hf hb K Q hK hQ
  refine call_wp hD hs hb (ods_ok hf hx) (fun hc => ?_) K Q hK hQ
  have e1 : (xs.toList.map a.eval).toArray = xs.map a.eval := by rw [← List.map_toArray]
  simp [execOp, ho, resolve, Act.eval, Deferred.ofValue, invoke, run_callFunc hc]
  exact e1.symm
theorem op1_calv {o : Oper} {fv : Operand} {fv' : Od} {xs : Array Operand} {tys : Array TypeId} {xs' : List Od} (ho : o.op = .call { callee := .value fv, args := xs, argTypes := tys }) (hf' : odOf keep fv = some fv') (hx : xs.toList.mapM (odOf keep) = some xs') : Op1OK P keep o (.calv fv' xs') := by
  intro O D hD w0 w m φ hp nt e t a hs hf hb K Q hK hQ
  have h1 := hf.od hf'
  simp only [Op1.run] at hb hK hQ
  generalize fv'.ev e t = fa at *
  cases fa <;> simp only [] at hb hK hQ <;> first | (exact absurd rfl hb) | skip
  rename_i f cs
  simp only [VR] at h1
  obtain ⟨cs', h1, h2⟩ := h1
  refine call_wp hD hs hb ((ods_ok hf hx).append h2) (fun hc => ?_) K Q hK hQ
  simp [execOp, ho, resolve, h1, Deferred.ofValue, invoke, run_callFunc hc]
theorem op1_pan {o : Oper} {x : Operand} {x' : Od} (ho : o.op = .panic x ∨ ∃ tys, o.op = .call { callee := .builtin .panic, args := #[x], argTypes := tys }) (hx : odOf keep x = some x') : Op1OK P keep o (.pan x') := by
  intro O D hD w0 w m φ hp nt e t a hs hf hb K Q hK hQ
  have h1 := hf.od hx
  simp only [Op1.run] at hb hK hQ
  generalize x'.ev e t = xa at *
  cases xa <;> simp only [] at hb hK hQ <;> first | (exact absurd rfl hb) | skip
  rename_i ty v
  have hv := h1
  simp only [VR] at h1
  obtain ⟨v', h1, h2⟩ := h1
  have hr : (execOp a.eval o).run P w = .halt (.panic (.iface ty v')) w := by
    rcases ho with ho | ⟨tys, ho⟩
    · simp [execOp, ho, h1, Instr.panic]
    · simp [execOp, ho, h1, Instr.panic, resolve, invoke, builtin]
  unfold Oper.wp
  rw [hr, Oper.upon_panic]
  rw [h1] at hv
  exact hQ _ hp rfl m φ w _ (fun _ _ => rfl) (Nat.le_refl _) hs hv

/-- a step of a region and its compiled form -/
structure StOK (P : Program) (keep : List Nat) (nt : Nat) (ops : Array Oper) (o : Oper) (s : St1) : Prop where
  ok : ∃ g p, s = .mk g (dsOf keep o.dst) p ∧ Op1OK P keep o p ∧ (∀ n, o.dst = some n → n < nt) ∧
    ((o.guard = none ∧ g = none) ∨ ∃ j want d od, o.guard = some (j, want) ∧ g = some (od, want) ∧ (ops[j]?).bind (·.dst) = some d ∧ odOf keep (.tmp d) = some od)
inductive RgOK (P : Program) (keep : List Nat) (nt : Nat) (ops : Array Oper) : List Oper → List St1 → Prop where
  | nil : RgOK P keep nt ops [] []
  | cons {o s l r} : StOK P keep nt ops o s → RgOK P keep nt ops l r → RgOK P keep nt ops (o :: l) (s :: r)

theorem yield_bool {m : Mu} {e : En} {t : List AV} {a : Act} (f : FR m keep nt e t a) {ops : Array Oper} {j d : Nat} {od : Od} (h1 : (ops[j]?).bind (·.dst) = some d) (h2 : odOf keep (.tmp d) = some od) {b : Bool} (hb : od.ev e t = .bool b) : yielded ops a.tmps j = some b := by
  have h3 := f.od h2
  rw [hb] at h3
  simp only [VR, Act.eval] at h3
  unfold yielded
  rw [h1]
  simp only [Option.bind_some]
  rw [Array.getD_eq_getD_getElem?] at h3
  cases ht : a.tmps[d]? with
  | none => rw [ht] at h3; simp [undef] at h3
  | some v => rw [ht] at h3; simp at h3; subst h3; rfl

theorem rg_ok {ops : Array Oper} (hD : DS P O D) {l : List Oper} {r : List St1} (hr : RgOK P keep nt ops l r) : ∀ (e : En) (t : List AV) (h : Hp O.X) (a : Act) (w : World), ST O w0 keep nt ds m0 n0 e t h a w → runRg D r e t h ≠ .bad →
    wpList P ops (QP O w0 keep nt ds m0 n0 (runRg D r e t h)) l a w := by
  induction hr with
  | nil =>
    intro e t h a w hst hb
    refine wpList_nil ?_
    obtain ⟨m, φ, h1, h2, h3, h4, h5⟩ := hst
    exact ⟨rfl, m, φ, h1, h2, h3, h4.void, h5⟩
  | @cons o s l r hs hr ih =>
      intro e t h a w hst hb
      obtain ⟨g, p, rfl, hop, hdst, hg⟩ := hs.ok
      obtain ⟨m, φ, h1, h2, h3, h4, h5⟩ := hst
      refine wpList_step fun K hK => ?_
      have skip : runRg D (.mk g (dsOf keep o.dst) p :: r) e t h = runRg D r (putE (dsOf keep o.dst) .bot e) (putT (dsOf keep o.dst) .bot t) h → K (a.put o.dst undef) w := fun heq => by
        rw [heq] at hK hb
        refine hK _ _ (ih _ _ _ _ _ ⟨m, φ, h1, h2, h3, h4.put hdst (by simp [VR]), ?_⟩ hb)
        cases hd : o.dst <;> exact h5
      have go : runRg D (.mk g (dsOf keep o.dst) p :: r) e t h = stepR (p.run D e t h) (fun v h' => runRg D r (putE (dsOf keep o.dst) v e) (putT (dsOf keep o.dst) v t) h') → o.wp P a w K (QP O w0 keep nt ds m0 n0 (runRg D (.mk g (dsOf keep o.dst) p :: r) e t h)) := fun heq => by
        rw [heq] at hK hb ⊢
        have hpb : p.run D e t h ≠ .bad := fun e => by rw [e] at hb; exact hb rfl
        refine hop hD h3 h4 hpb K _ (fun v h' hv m' φ' w' v' g1 g2 g3 g4 => ?_) (fun v h' hv m' φ' w' v' g1 g2 g3 g4 => ?_)
        · rw [hv] at hK hb
          refine hK _ _ (ih _ _ _ _ _ ⟨m', φ', fun g hg => by rw [g1 g (by omega), h1 g hg], by omega, g3, (h4.ext (grow_ext h3 g1)).put hdst g4, ?_⟩ hb)
          cases hd : o.dst <;> exact h5
        · rw [hv]
          exact ⟨v', m', φ', rfl, g4, fun g hg => by rw [g1 g (by omega), h1 g hg], by omega, g3, h5⟩
      rcases hg with ⟨hg, rfl⟩ | ⟨j, want, d, od, hg, rfl, hj, hod⟩
      · rw [if_pos (by simp [Region.wanted, hg])]
        exact go (by simp only [runRg, gdv, gdR])
      · cases hod' : od.ev e t with
        | bool b =>
          have hy := yield_bool h4 hj hod hod'
          cases hbw : (b == want) with
          | true =>
            rw [if_pos (by simp only [Region.wanted, hg, hy]; simpa using hbw)]
            exact go (by simp only [runRg, gdv, hod', hbw, gdR])
          | false =>
            rw [if_neg (by simp only [Region.wanted, hg, hy]; simpa using hbw)]
            exact skip (by simp only [runRg, gdv, hod', hbw, gdR])
        | _ => exact absurd (by simp only [runRg, gdv, hod', gdR]) hb
end
end Am
end Go.Proofs.Ytmfobcejnkakpaa
