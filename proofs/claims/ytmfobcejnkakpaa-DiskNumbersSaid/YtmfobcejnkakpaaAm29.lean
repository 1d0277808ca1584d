/- The plain machine: a table of functions, run by the kernel. -/
import Derived.Test.YtmfobcejnkakpaaAm25
namespace Go.Proofs.Ytmfobcejnkakpaa
set_option linter.unusedVariables false
set_option linter.unusedSimpArgs false
namespace Am
open Go.RowKit
set_option maxRecDepth 10000
variable {P : Program}

/-- a function: brought, or told by a contract -/
inductive Ent (X : Type) where
  | bc (b : BF)
  | nat (F : Fn X)
noncomputable def entF {X : Type} (N : Nat) (e : Ent X) : Fn X := match e with | .bc b => fun D args h => b.run (fun D => drR D) N D args h | .nat F => F
noncomputable def tabT {X : Type} (l : List (Nat × Ent X)) : T (Ent X) := List.rec (motive := fun _ => T (Ent X)) .nil (fun p _ ih => T.set 16 ih p.1 (some p.2)) l
theorem get_tab {X : Type} {l : List (Nat × Ent X)} {g : Nat} {c : Ent X} (h : (tabT l).get 16 g = some c) : ∃ p ∈ l, p.1 = g ∧ c = p.2 := by
  induction l with
  | nil => rw [show (tabT [] : T (Ent X)) = .nil from rfl, get_nil] at h; cases h
  | cons p l ih =>
    have e : (tabT (p :: l) : T (Ent X)) = T.set 16 (tabT l) p.1 (some p.2) := rfl
    rw [e] at h
    rcases T.get_set 16 (tabT l) p.1 (some p.2) g h with ⟨h1, h2⟩ | h'
    · cases h2; exact ⟨p, List.mem_cons_self .., h1.symm, rfl⟩
    · obtain ⟨q, h1, h2⟩ := ih h'.2
      exact ⟨q, List.mem_cons_of_mem _ h1, h2⟩
noncomputable def k_ent {X : Type} (N : Nat) (e : Ent X) (D : Dp X) (args : List AV) (h : Hp X) : FRes X := Ent.rec (motive := fun _ => Nat → Dp X → List AV → Hp X → FRes X) (fun b N D args h => k_bf N b D args h)
  (fun F _ D args h => FRes.rec (motive := fun _ => FRes X) (fun v h => k_fvd v fun v => k_heap h fun h => .ret v h) (fun v h => .panic v h) .bad (F D args h)) e N D args h
noncomputable def k_disp {X : Type} (t : T (Ent X)) (N n : Nat) : Dp X :=
  Nat.rec (motive := fun _ => Dp X) (fun _ _ _ => .bad) (fun _ ih f args h => Option.rec (motive := fun _ => Dp X → List AV → Hp X → FRes X) (fun _ _ _ => .bad) (fun e D args h => k_ent N e D args h) (k_tget 16 t f) ih args h) n
theorem k_ent_eq {X : Type} (N : Nat) (e : Ent X) (D : Dp X) (args : List AV) (h : Hp X) : k_ent N e D args h = entF N e D args h := by
  cases e with
  | bc b => exact k_bf_eq N b D args h
  | nat F =>
    show (FRes.rec (motive := fun _ => FRes X) _ _ _ (F D args h) : FRes X) = F D args h
    cases F D args h with
    | ret v h => show k_fvd v _ = _; rw [k_fvd_eq, k_heap_eq]
    | panic v h => rfl
    | bad => rfl
theorem k_disp_ok {O : Objs} {N : Nat} {l : List (Nat × Ent O.X)} (hl : ∀ p ∈ l, FnOK P O p.1 (entF N p.2)) {t : T (Ent O.X)} (ht : t = tabT l) (n : Nat) : DS P O (k_disp t N n) := by
  subst ht
  have e : ∀ n, k_disp (tabT l) N n = disp (fun f => ((tabT l).get 16 f).map (entF N)) n := by
    intro n
    induction n with
    | zero => rfl
    | succ n ih =>
      funext f args h
      show (Option.rec (motive := fun _ => Dp O.X → List AV → Hp O.X → FRes O.X) (fun _ _ _ => .bad) (fun e D args h => k_ent N e D args h) (k_tget 16 (tabT l) f) (k_disp (tabT l) N n) args h : FRes O.X) =
        callO (((tabT l).get 16 f).map (entF N)) (disp (fun f => ((tabT l).get 16 f).map (entF N)) n) args h
      rw [k_tget_eq, ih]
      cases (tabT l).get 16 f with
      | none => rfl
      | some e => exact k_ent_eq N e _ _ _
  rw [e]
  refine disp_ok (fun f F hF => ?_) n
  obtain ⟨en, h1, rfl⟩ := Option.map_eq_some_iff.1 hF
  obtain ⟨p, hp, rfl, rfl⟩ := get_tab h1
  exact hl p hp
theorem ent_bc {O : Objs} {f : Nat} {b : BF} (N : Nat) (h : bfOf P (drOf P) f b.keep = some b) : FnOK P O f (entF N (.bc b)) := bfd_ok h N
end Am
end Go.Proofs.Ytmfobcejnkakpaa
