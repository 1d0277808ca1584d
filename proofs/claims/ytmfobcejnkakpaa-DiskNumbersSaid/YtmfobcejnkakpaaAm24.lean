/- The plain machine: a run in pieces: what a piece of code makes of a state, told by rules; behind each piece what is not wanted of the heap may be forgotten. -/
import Derived.Test.YtmfobcejnkakpaaAm23
namespace Go.Proofs.Ytmfobcejnkakpaa
set_option linter.unusedVariables false
set_option linter.unusedSimpArgs false
namespace Am
open Go.RowKit
set_option maxRecDepth 10000
variable {P : Program}

def sub {X : Type} (h' h : Hp X) : Prop := h.n ≤ h'.n ∧ ∀ g c, h'.get g = some c → h.get g = some c
theorem SR.sub {O : Objs} {w0 w : World} {m : Mu} {φ : Ph} {h h' : Hp O.X} (H : SR O w0 w m φ h) (hs : Am.sub h' h) : SR O w0 w m φ h' :=
  ⟨H.below, fun g c hg p hp => H.blk g c (hs.2 g c hg) p hp, fun g g' c c' hg hg' hne o o' i i' => H.dis g g' c c' (hs.2 g c hg) (hs.2 g' c' hg') hne o o' i i',
    fun g c hg o i => H.fresh g c (hs.2 g c hg) o i, fun g p hp => Nat.lt_of_lt_of_le (H.dom g p hp) hs.1⟩
theorem ST.sub {O : Objs} {w0 : World} {keep : List Nat} {nt : Nat} {ds : List Deferred} {m0 : Mu} {n0 : Nat} {e : En} {t : List AV} {h h' : Hp O.X} {a : Act} {w : World} (H : ST O w0 keep nt ds m0 n0 e t h a w) (hs : Am.sub h' h) : ST O w0 keep nt ds m0 n0 e t h' a w := by
  obtain ⟨m, φ, h1, h2, h3, h4, h5⟩ := H
  exact ⟨m, φ, h1, Nat.le_trans h2 hs.1, h3.sub hs, h4, h5⟩

/-- a state, written out -/
structure Stt (X : Type) where
  t : List AV
  n : Nat
  l : List (Nat × AB X)
noncomputable def Stt.tr {X : Type} (l : List (Nat × AB X)) : T (AB X) := List.rec (motive := fun _ => T (AB X)) .nil (fun p _ ih => T.set 40 ih p.1 (some p.2)) l
noncomputable def Stt.h {X : Type} (s : Stt X) : Hp X := ⟨Stt.tr s.l, s.n⟩
theorem Stt.get_tr {X : Type} {l : List (Nat × AB X)} {g : Nat} {c : AB X} (h : (Stt.tr l : T (AB X)).get 40 g = some c) : ∃ p ∈ l, p.1 = g ∧ c = p.2 := by
  induction l with
  | nil => rw [show (Stt.tr [] : T (AB X)) = .nil from rfl, get_nil] at h; cases h
  | cons p l ih =>
    have e : (Stt.tr (p :: l) : T (AB X)) = T.set 40 (Stt.tr l) p.1 (some p.2) := rfl
    rw [e] at h
    rcases T.get_set 40 (Stt.tr l : T (AB X)) p.1 (some p.2) g h with ⟨h1, h2⟩ | h'
    · cases h2; exact ⟨p, List.mem_cons_self .., h1.symm, rfl⟩
    · obtain ⟨q, h1, h2⟩ := ih h'.2
      exact ⟨q, List.mem_cons_of_mem _ h1, h2⟩
inductive Kd where
  | norm
  | brk (k : Nat)
  | ret
def Kd.r {X : Type} (k : Kd) (t : List AV) (h : Hp X) : R X := match k with | .norm => .norm t h | .brk n => .brk n t h | .ret => .ret t h
/-- two blocks alike; eqX: two things alike -/
noncomputable def eqBk {X : Type} (eqX : X → X → Bool) (a b : AB X) : Bool := AB.rec (motive := fun _ => AB X → Bool)
  (fun l b => AB.rec (motive := fun _ => Bool) (fun l' => eqAs l l') (fun _ => false) (fun _ => false) b) (fun _ _ => false) (fun x b => AB.rec (motive := fun _ => Bool) (fun _ => false) (fun _ => false) (fun y => eqX x y) b) a b
theorem eqBk_ok {X : Type} {eqX : X → X → Bool} (hX : ∀ x y, eqX x y = true → x = y) {a b : AB X} (h : eqBk eqX a b = true) : a = b := by
  cases a <;> cases b <;> first | (cases h; done) | skip
  · rw [eqAs_ok (show eqAs _ _ = true from h)]
  · rw [hX _ _ h]
noncomputable def chkL {X : Type} (eqX : X → X → Bool) (h : Hp X) (l : List (Nat × AB X)) : Bool :=
  List.rec (motive := fun _ => Bool) true (fun p _ ih => Option.rec (motive := fun _ => Bool) false (fun b => Bool.rec (motive := fun _ => Bool) false ih (eqBk eqX b p.2)) (k_tget 40 h.t p.1)) l
noncomputable def chkS {X : Type} (eqX : X → X → Bool) (t : List AV) (h : Hp X) (s : Stt X) : Bool :=
  Bool.rec (motive := fun _ => Bool) false (Bool.rec (motive := fun _ => Bool) false (chkL eqX h s.l) (Nat.ble h.n s.n)) (eqAs t s.t)
noncomputable def chkR {X : Type} (eqX : X → X → Bool) (x : R X) (k : Kd) (s : Stt X) : Bool :=
  R.rec (motive := fun _ => Kd → Stt X → Bool) (fun t h k s => Kd.rec (motive := fun _ => Bool) (chkS eqX t h s) (fun _ => false) false k)
    (fun n t h k s => Kd.rec (motive := fun _ => Bool) false (fun m => Bool.rec (motive := fun _ => Bool) false (chkS eqX t h s) (Nat.beq n m)) false k)
    (fun t h k s => Kd.rec (motive := fun _ => Bool) false (fun _ => false) (chkS eqX t h s) k) (fun _ _ _ _ => false) (fun _ _ => false) x k s
theorem chkL_ok {X : Type} {eqX : X → X → Bool} (hX : ∀ x y, eqX x y = true → x = y) {h : Hp X} : ∀ {l : List (Nat × AB X)}, chkL eqX h l = true → ∀ p ∈ l, h.get p.1 = some p.2
  | [], _, p, hp => by cases hp
  | q :: l, hq, p, hp => by
    have hq' : (Option.rec (motive := fun _ => Bool) false (fun b => Bool.rec (motive := fun _ => Bool) false (chkL eqX h l) (eqBk eqX b q.2)) (k_tget 40 h.t q.1) : Bool) = true := hq
    rw [k_tget_eq, show T.get 40 h.t q.1 = h.get q.1 from rfl] at hq'
    cases hb : h.get q.1 with
    | none => rw [hb] at hq'; cases hq'
    | some b =>
      rw [hb] at hq'
      simp only at hq'
      cases he : eqBk eqX b q.2 with
      | false => rw [he] at hq'; cases hq'
      | true =>
        rw [he] at hq'
        rcases List.mem_cons.1 hp with rfl | hp
        · rw [hb, eqBk_ok hX he]
        · exact chkL_ok hX hq' p hp
theorem chkS_ok {X : Type} {eqX : X → X → Bool} (hX : ∀ x y, eqX x y = true → x = y) {t : List AV} {h : Hp X} {s : Stt X} (hk : chkS eqX t h s = true) : t = s.t ∧ sub s.h h := by
  unfold chkS at hk
  cases h1 : eqAs t s.t with
  | false => rw [h1] at hk; cases hk
  | true =>
    rw [h1] at hk
    cases h2 : Nat.ble h.n s.n with
    | false => rw [h2] at hk; cases hk
    | true =>
      rw [h2] at hk
      refine ⟨eqAs_ok h1, Nat.le_of_ble_eq_true h2, fun g c hg => ?_⟩
      obtain ⟨p, hp, rfl, rfl⟩ := Stt.get_tr hg
      exact chkL_ok hX hk p hp

section
variable {O : Objs} {D : Dp O.X} {keep : List Nat} {nt : Nat}
def EvC (P : Program) (O : Objs) (keep : List Nat) (nt : Nat) (c : Code) (t : List AV) (h : Hp O.X) (r : R O.X) : Prop :=
  ∀ (w0 : World) (ds : List Deferred) (m0 : Mu) (n0 : Nat) (a : Act) (w : World), ST O w0 keep nt ds m0 n0 [] t h a w → c.wp P (QP O w0 keep nt ds m0 n0 r) a w
def EvR (P : Program) (O : Objs) (keep : List Nat) (nt : Nat) (c : Code) (t : List AV) (h : Hp O.X) (r : R O.X) : Prop :=
  ∃ n, ∀ (w0 : World) (ds : List Deferred) (m0 : Mu) (n0 : Nat) (a : Act) (w : World), ST O w0 keep nt ds m0 n0 [] t h a w → Code.rounds P c (QP O w0 keep nt ds m0 n0 r) n a w
def EvB (P : Program) (O : Objs) (keep : List Nat) (nt : Nat) (b : BC) (t : List AV) (h : Hp O.X) (r : R O.X) : Prop := ∀ c, bcOf P keep nt (drOf P keep nt) c = some b → EvC P O keep nt c t h r
def EvL (P : Program) (O : Objs) (keep : List Nat) (nt : Nat) (b : BC) (t : List AV) (h : Hp O.X) (r : R O.X) : Prop := ∀ c, bcOf P keep nt (drOf P keep nt) c = some b → EvR P O keep nt c t h r

theorem ev_leaf (hD : DS P O D) {eqX : O.X → O.X → Bool} (hX : ∀ x y, eqX x y = true → x = y) {b : BC} {t : List AV} {h : Hp O.X} {k : Kd} {s : Stt O.X} (N : Nat) (hk : chkR eqX (k_bc b D N t h) k s = true) : EvB P O keep nt b t h (k.r s.t s.h) := by
  intro c hc w0 ds m0 n0 a w hst
  rw [k_bc_eq] at hk
  have hcs : CS P keep nt (fun D => drR D) c b := bc_ok (fun _ _ _ hr => dr_ok hr) hc
  have hb : b.run D (drR D) N t h ≠ .bad := fun e => by rw [e] at hk; cases hk
  refine wp_mono (hcs hD N t h hb a w hst) fun ex a' w' hq => ?_
  have hq2 : QP O w0 keep nt ds m0 n0 (b.run D (drR D) N t h) ex a' w' := hq
  cases hr : b.run D (drR D) N t h with
  | norm t' h' =>
    rw [hr] at hk hq2
    cases k with
    | norm => obtain ⟨rfl, h2⟩ := chkS_ok hX (h := h') (t := t') hk; exact ⟨hq2.1, hq2.2.sub h2⟩
    | brk n => cases hk
    | ret => cases hk
  | brk m t' h' =>
    rw [hr] at hk hq2
    cases k with
    | norm => cases hk
    | brk n =>
      have hk' : (Bool.rec (motive := fun _ => Bool) false (chkS eqX t' h' s) (Nat.beq m n) : Bool) = true := hk
      cases hmn : Nat.beq m n with
      | false => rw [hmn] at hk'; cases hk'
      | true =>
        rw [hmn] at hk'
        obtain ⟨rfl, h2⟩ := chkS_ok hX (h := h') (t := t') hk'
        have := Nat.eq_of_beq_eq_true hmn
        subst this
        exact ⟨hq2.1, hq2.2.sub h2⟩
    | ret => cases hk
  | ret t' h' =>
    rw [hr] at hk hq2
    cases k with
    | norm => cases hk
    | brk n => cases hk
    | ret => obtain ⟨rfl, h2⟩ := chkS_ok hX (h := h') (t := t') hk; exact ⟨hq2.1, hq2.2.sub h2⟩
  | panic v h' => rw [hr] at hk; cases hk
  | bad => exact absurd hr hb

theorem inv_seq {dg : Array Oper → Option Dr} {c : Code} {a b : BC} (h : bcOf P keep nt dg c = some (.seq a b)) : ∃ c1 c2, c = .seq c1 c2 ∧ bcOf P keep nt dg c1 = some a ∧ bcOf P keep nt dg c2 = some b := by
  cases c with
  | seq c1 c2 =>
    simp only [bcOf] at h
    split at h
    · rename_i h1 h2; cases h; exact ⟨_, _, rfl, h1, h2⟩
    · cases h
  | region id ops d => cases d <;> simp only [bcOf] at h <;> split at h <;> cases h
  | cond => simp only [bcOf] at h; split at h <;> cases h
  | block => simp only [bcOf] at h; split at h <;> cases h
  | loop => simp only [bcOf] at h; split at h <;> cases h
  | _ => cases h
theorem inv_cond {dg : Array Oper → Option Dr} {c : Code} {x : Od} {a b : BC} (h : bcOf P keep nt dg c = some (.cond x a b)) : ∃ z c1 c2, c = .cond z c1 c2 ∧ odOf keep z = some x ∧ bcOf P keep nt dg c1 = some a ∧ bcOf P keep nt dg c2 = some b := by
  cases c with
  | cond z c1 c2 =>
    simp only [bcOf] at h
    split at h
    · rename_i h0 h1 h2; cases h; exact ⟨_, _, _, rfl, h0, h1, h2⟩
    · cases h
  | region id ops d => cases d <;> simp only [bcOf] at h <;> split at h <;> cases h
  | seq => simp only [bcOf] at h; split at h <;> cases h
  | block => simp only [bcOf] at h; split at h <;> cases h
  | loop => simp only [bcOf] at h; split at h <;> cases h
  | _ => cases h
theorem inv_block {dg : Array Oper → Option Dr} {c : Code} {id : Nat} {a : BC} (h : bcOf P keep nt dg c = some (.block id a)) : ∃ c1, c = .block id c1 ∧ bcOf P keep nt dg c1 = some a := by
  cases c with
  | block i c1 =>
    simp only [bcOf] at h
    split at h
    · rename_i h1; cases h; exact ⟨_, rfl, h1⟩
    · cases h
  | region id ops d => cases d <;> simp only [bcOf] at h <;> split at h <;> cases h
  | seq => simp only [bcOf] at h; split at h <;> cases h
  | cond => simp only [bcOf] at h; split at h <;> cases h
  | loop => simp only [bcOf] at h; split at h <;> cases h
  | _ => cases h
theorem inv_loop {dg : Array Oper → Option Dr} {c : Code} {a : BC} (h : bcOf P keep nt dg c = some (.loop a)) : ∃ c1, c = .loop c1 ∧ bcOf P keep nt dg c1 = some a := by
  cases c with
  | loop c1 =>
    simp only [bcOf] at h
    split at h
    · rename_i h1; cases h; exact ⟨_, rfl, h1⟩
    · cases h
  | region id ops d => cases d <;> simp only [bcOf] at h <;> split at h <;> cases h
  | seq => simp only [bcOf] at h; split at h <;> cases h
  | cond => simp only [bcOf] at h; split at h <;> cases h
  | block => simp only [bcOf] at h; split at h <;> cases h
  | _ => cases h

variable {a b : BC} {t t1 : List AV} {h h1 : Hp O.X} {r : R O.X}
theorem ev_seq (H : EvB P O keep nt a t h (.norm t1 h1)) (H' : EvB P O keep nt b t1 h1 r) : EvB P O keep nt (.seq a b) t h r := by
  intro c hc w0 ds m0 n0 ac w hst
  obtain ⟨c1, c2, rfl, k1, k2⟩ := inv_seq hc
  refine wp_seq (wp_mono (H c1 k1 w0 ds m0 n0 ac w hst) fun ex a' w' hq => ?_)
  obtain ⟨rfl, hst'⟩ := hq
  exact H' c2 k2 w0 ds m0 n0 a' w' hst'
theorem ev_seq_ret (H : EvB P O keep nt a t h (.ret t1 h1)) : EvB P O keep nt (.seq a b) t h (.ret t1 h1) := by
  intro c hc w0 ds m0 n0 ac w hst
  obtain ⟨c1, c2, rfl, k1, k2⟩ := inv_seq hc
  refine wp_seq (wp_mono (H c1 k1 w0 ds m0 n0 ac w hst) fun ex a' w' hq => ?_)
  obtain ⟨rfl, hst'⟩ := hq
  exact ⟨rfl, hst'⟩
theorem ev_seq_brk {k : Nat} (H : EvB P O keep nt a t h (.brk k t1 h1)) : EvB P O keep nt (.seq a b) t h (.brk k t1 h1) := by
  intro c hc w0 ds m0 n0 ac w hst
  obtain ⟨c1, c2, rfl, k1, k2⟩ := inv_seq hc
  refine wp_seq (wp_mono (H c1 k1 w0 ds m0 n0 ac w hst) fun ex a' w' hq => ?_)
  obtain ⟨rfl, hst'⟩ := hq
  exact ⟨rfl, hst'⟩
theorem ev_cond_t {x : Od} (hx : x.ev [] t = .bool true) (H : EvB P O keep nt a t h r) : EvB P O keep nt (.cond x a b) t h r := by
  intro c hc w0 ds m0 n0 ac w hst
  obtain ⟨z, c1, c2, rfl, k0, k1, k2⟩ := inv_cond hc
  obtain ⟨m, φ, g1, g2, g3, g4, g5⟩ := id hst
  have hv := g4.od k0
  rw [hx] at hv
  exact wp_cond_true hv (H c1 k1 w0 ds m0 n0 ac w hst)
theorem ev_cond_f {x : Od} (hx : x.ev [] t = .bool false) (H : EvB P O keep nt b t h r) : EvB P O keep nt (.cond x a b) t h r := by
  intro c hc w0 ds m0 n0 ac w hst
  obtain ⟨z, c1, c2, rfl, k0, k1, k2⟩ := inv_cond hc
  obtain ⟨m, φ, g1, g2, g3, g4, g5⟩ := id hst
  have hv := g4.od k0
  rw [hx] at hv
  exact wp_cond_false hv (H c2 k2 w0 ds m0 n0 ac w hst)
theorem ev_block {id : Nat} (H : EvB P O keep nt a t h (.norm t1 h1)) : EvB P O keep nt (.block id a) t h (.norm t1 h1) := by
  intro c hc w0 ds m0 n0 ac w hst
  obtain ⟨c1, rfl, k1⟩ := inv_block hc
  refine wp_block (wp_mono (H c1 k1 w0 ds m0 n0 ac w hst) fun ex a' w' hq => ?_)
  obtain ⟨rfl, hst'⟩ := hq
  exact ⟨rfl, hst'⟩
theorem ev_block_ret {id : Nat} (H : EvB P O keep nt a t h (.ret t1 h1)) : EvB P O keep nt (.block id a) t h (.ret t1 h1) := by
  intro c hc w0 ds m0 n0 ac w hst
  obtain ⟨c1, rfl, k1⟩ := inv_block hc
  refine wp_block (wp_mono (H c1 k1 w0 ds m0 n0 ac w hst) fun ex a' w' hq => ?_)
  obtain ⟨rfl, hst'⟩ := hq
  exact ⟨rfl, hst'⟩
theorem ev_block_brk {id : Nat} (H : EvB P O keep nt a t h (.brk id t1 h1)) : EvB P O keep nt (.block id a) t h (.norm t1 h1) := by
  intro c hc w0 ds m0 n0 ac w hst
  obtain ⟨c1, rfl, k1⟩ := inv_block hc
  refine wp_block (wp_mono (H c1 k1 w0 ds m0 n0 ac w hst) fun ex a' w' hq => ?_)
  obtain ⟨rfl, hst'⟩ := hq
  show if id = id then QP O w0 keep nt ds m0 n0 (.norm t1 h1) .normal a' w' else QP O w0 keep nt ds m0 n0 (.norm t1 h1) (.exit id) a' w'
  rw [if_pos rfl]
  exact ⟨rfl, hst'⟩
theorem ev_block_brk' {id k : Nat} (hk : Nat.beq k id = false) (H : EvB P O keep nt a t h (.brk k t1 h1)) : EvB P O keep nt (.block id a) t h (.brk k t1 h1) := by
  intro c hc w0 ds m0 n0 ac w hst
  obtain ⟨c1, rfl, k1⟩ := inv_block hc
  refine wp_block (wp_mono (H c1 k1 w0 ds m0 n0 ac w hst) fun ex a' w' hq => ?_)
  obtain ⟨rfl, hst'⟩ := hq
  have hne : k ≠ id := fun e => by subst e; rw [Nat.beq_refl] at hk; cases hk
  show if k = id then QP O w0 keep nt ds m0 n0 (.brk k t1 h1) .normal a' w' else QP O w0 keep nt ds m0 n0 (.brk k t1 h1) (.exit k) a' w'
  rw [if_neg hne]
  exact ⟨rfl, hst'⟩
theorem ev_loop (H : EvL P O keep nt a t h r) : EvB P O keep nt (.loop a) t h r := by
  intro c hc w0 ds m0 n0 ac w hst
  obtain ⟨c1, rfl, k1⟩ := inv_loop hc
  obtain ⟨n, hn⟩ := H c1 k1
  exact wp_loop_rounds n (hn w0 ds m0 n0 ac w hst)
theorem evl_more (H : EvB P O keep nt a t h (.norm t1 h1)) (H' : EvL P O keep nt a t1 h1 r) : EvL P O keep nt a t h r := by
  intro c hc
  obtain ⟨n, hn⟩ := H' c hc
  refine ⟨n + 1, fun w0 ds m0 n0 ac w hst => ?_⟩
  rw [rounds_succ]
  refine wp_mono (H c hc w0 ds m0 n0 ac w hst) fun ex a' w' hq => ?_
  obtain ⟨rfl, hst'⟩ := hq
  exact hn w0 ds m0 n0 a' w' hst'
theorem evl_brk {k : Nat} (H : EvB P O keep nt a t h (.brk k t1 h1)) : EvL P O keep nt a t h (.brk k t1 h1) := by
  intro c hc
  refine ⟨1, fun w0 ds m0 n0 ac w hst => ?_⟩
  rw [rounds_succ]
  refine wp_mono (H c hc w0 ds m0 n0 ac w hst) fun ex a' w' hq => ?_
  obtain ⟨rfl, hst'⟩ := hq
  exact ⟨rfl, hst'⟩
theorem evl_ret (H : EvB P O keep nt a t h (.ret t1 h1)) : EvL P O keep nt a t h (.ret t1 h1) := by
  intro c hc
  refine ⟨1, fun w0 ds m0 n0 ac w hst => ?_⟩
  rw [rounds_succ]
  refine wp_mono (H c hc w0 ds m0 n0 ac w hst) fun ex a' w' hq => ?_
  obtain ⟨rfl, hst'⟩ := hq
  exact ⟨rfl, hst'⟩
end
end Am
end Go.Proofs.Ytmfobcejnkakpaa
