/- The plain machine: a region that draws its order: one order serves for all. -/
import Derived.Test.YtmfobcejnkakpaaAm15
namespace Go.Proofs.Ytmfobcejnkakpaa
set_option linter.unusedVariables false
set_option linter.unusedSimpArgs false
namespace Am
open Go.RowKit
set_option maxRecDepth 10000
variable {P : Program}

def St1.g : St1 → Option (Od × Bool) | .mk g _ _ => g
def St1.d : St1 → Ds | .mk _ d _ => d
def St1.o : St1 → Op1 | .mk _ _ o => o
def St1.ods (s : St1) : List Od := (match s.g with | none => [] | some (x, _) => [x]) ++ s.o.ods
def Op1.isMov : Op1 → Bool | .mov _ => true | _ => false
def Op1.isAlc : Op1 → Bool | .eff f => f.isAlc | _ => false
def Op1.df (o : Op1) : Bool := o.isMov || o.isAlc
/-- does an operand read what was laid there? -/
def hits (d : Ds) (x : Od) : Bool := match d, x with | .slot i, .slot j => Nat.beq i j | .env i, .env j => Nat.beq i j | _, _ => false
def clash (d d' : Ds) : Bool := match d, d' with | .slot i, .slot j => Nat.beq i j | .env i, .env j => Nat.beq i j | _, _ => false

theorem ev_put {d : Ds} {v : AV} {e : En} {t : List AV} {x : Od} (hd : ∀ i, d = .slot i → i < t.length) : x.ev (putE d v e) (putT d v t) = bif hits d x then v else x.ev e t := by
  cases d with
  | none => cases x <;> simp [putE, putT, hits]
  | slot i =>
    have hi := hd i rfl
    cases x with
    | slot j =>
      simp only [Od.ev, putT, getS_setS, hits]
      by_cases h : j = i
      · subst h; simp [hi]
      · have hb := nbeq (Ne.symm h)
        rw [if_neg (fun hh => h hh.1), hb]; rfl
    | env k => simp [Od.ev, putE, hits]
    | const v => simp [Od.ev, hits]
  | env i =>
    cases x with
    | slot j => simp [Od.ev, putT, hits]
    | env k =>
      simp only [Od.ev, putE, lookE, hits]
    | const v => simp [Od.ev, hits]
theorem hits_clash {d d' : Ds} {x : Od} (h : hits d x = true) (h' : hits d' x = true) : clash d d' = true := by
  cases d <;> cases d' <;> cases x <;> simp_all [hits, clash]

section
variable {X : Type}
/-- one step of the fixed order -/
noncomputable def sv (D : Dp X) (s : St1) (e : En) (t : List AV) (h : Hp X) : AV × Hp X :=
  match gdv s.g e t with
  | some true => (match s.o.run D e t h with | .ret v h' => (v, h') | _ => (.bot, h))
  | _ => (.bot, h)
/-- the states of the fixed order -/
noncomputable def cst (D : Dp X) (S : Nat → St1) (t0 : List AV) (h0 : Hp X) : Nat → En × List AV × Hp X
  | 0 => ([], t0, h0)
  | p + 1 =>
    let c := cst D S t0 h0 p
    let r := sv D (S p) c.1 c.2.1 c.2.2
    (putE (S p).d r.1 c.1, putT (S p).d r.1 c.2.1, r.2)
inductive Pa (X : Type) where
  | skip
  | mov (m : Mv) (e : En) (t : List AV) (v : AV)
  | alc (g : Nat) (l : List AV)
noncomputable def Pa.ok {X : Type} (h : Hp X) (p : Pa X) : Bool :=
  match p with
  | .skip => true
  | .mov m e t v => (match m.ev e t h with | some v' => eqA v v' | none => false)
  | .alc g l => (match h.get g with | some (.rw l') => eqAs l l' | _ => false)
noncomputable def paOf {X : Type} (o : Op1) (e : En) (t : List AV) (h : Hp X) (v : AV) (h' : Hp X) : Option (Pa X) :=
  match o with
  | .mov m => some (.mov m e t v)
  | .eff f => bif f.isAlc then (match h'.get h.n, f.alc e t with | some (.rw l), some (_, l') => bif eqAs l l' then some (.alc h.n l) else none | _, _ => none) else some .skip
  | _ => some .skip
noncomputable def chkAll {X : Type} (h : Hp X) (past : List (Pa X)) : List Nat → Bool
  | [] => true
  | q :: r => (match past[q]? with | some p => p.ok h | none => true) && chkAll h past r
noncomputable def drGo {X : Type} (D : Dp X) : Dr → List (Pa X) → En → List AV → Hp X → R X
  | [], _, _, t, h => .norm t h
  | (s, chk) :: r, past, e, t, h =>
    match gdv s.g e t with
    | none => .bad
    | some false => drGo D r (past ++ [.skip]) (putE s.d .bot e) (putT s.d .bot t) h
    | some true => (match s.o.run D e t h with
      | .ret v h' => (match paOf s.o e t h v h' with
        | some pa => bif chkAll h' past chk then drGo D r (past ++ [pa]) (putE s.d v e) (putT s.d v t) h' else .bad
        | none => .bad)
      | _ => .bad)
noncomputable def drR {X : Type} (D : Dp X) (r : Dr) (t : List AV) (h : Hp X) : R X := drGo D r [] [] t h

/-- what stands of an operation of the fixed order in a later heap -/
def Stab (D : Dp X) (S : Nat → St1) (t0 : List AV) (h0 : Hp X) (q : Nat) (h : Hp X) : Prop :=
  let c := cst D S t0 h0 q
  gdv (S q).g c.1 c.2.1 = some false ∨ ((∀ m, (S q).o = .mov m → m.ev c.1 c.2.1 h = some (sv D (S q) c.1 c.2.1 c.2.2).1) ∧
    ∀ f, (S q).o = .eff f → f.isAlc = true → ∃ mk l, f.alc c.1 c.2.1 = some (mk, l) ∧ h.get c.2.2.n = some (.rw l))
structure Good (D : Dp X) (S : Nat → St1) (C : Nat → List Nat) (n : Nat) (t0 : List AV) (h0 : Hp X) : Prop where
  run : ∀ p, p < n → let c := cst D S t0 h0 p; gdv (S p).g c.1 c.2.1 = some false ∨ (gdv (S p).g c.1 c.2.1 = some true ∧ (S p).o.run D c.1 c.2.1 c.2.2 = .ret (sv D (S p) c.1 c.2.1 c.2.2).1 (sv D (S p) c.1 c.2.1 c.2.2).2)
  self : ∀ p, p < n → Stab D S t0 h0 p (cst D S t0 h0 (p + 1)).2.2
  chk : ∀ p, p < n → gdv (S p).g (cst D S t0 h0 p).1 (cst D S t0 h0 p).2.1 = some true → ∀ q ∈ C p, q < p → Stab D S t0 h0 q (cst D S t0 h0 (p + 1)).2.2
/-- a row of what was ahead -/
def PastOK (D : Dp X) (S : Nat → St1) (t0 : List AV) (h0 : Hp X) (past : List (Pa X)) : Prop :=
  ∀ q pa, past[q]? = some pa → ∀ h, pa.ok h = true → Stab D S t0 h0 q h
theorem chkAll_ok {h : Hp X} {past : List (Pa X)} : ∀ {l : List Nat}, chkAll h past l = true → ∀ q ∈ l, ∀ pa, past[q]? = some pa → pa.ok h = true
  | [], _, q, hq, _, _ => by cases hq
  | x :: l, hh, q, hq, pa, hpa => by
    simp only [chkAll, Bool.and_eq_true] at hh
    rcases List.mem_cons.1 hq with rfl | hq
    · rw [hpa] at hh; exact hh.1
    · exact chkAll_ok hh.2 q hq pa hpa
theorem ext1 {Q : Nat → Prop} {p : Nat} (h : ∀ q, q < p → Q q) (h' : Q p) : ∀ q, q < p + 1 → Q q := fun q hq => by
  by_cases e : q = p
  · rw [e]; exact h'
  · exact h q (by omega)
theorem good_step {D : Dp X} {S : Nat → St1} {C : Nat → List Nat} {t0 : List AV} {h0 : Hp X} : ∀ (r : Dr) (p : Nat) (past : List (Pa X)), (∀ i, i < r.length → (r[i]?) = some (S (p + i), C (p + i))) → past.length = p → PastOK D S t0 h0 past → Good D S C p t0 h0 →
    drGo D r past (cst D S t0 h0 p).1 (cst D S t0 h0 p).2.1 (cst D S t0 h0 p).2.2 ≠ .bad →
    Good D S C (p + r.length) t0 h0 ∧ drGo D r past (cst D S t0 h0 p).1 (cst D S t0 h0 p).2.1 (cst D S t0 h0 p).2.2 = .norm (cst D S t0 h0 (p + r.length)).2.1 (cst D S t0 h0 (p + r.length)).2.2
  | [], p, past, _, _, _, hg, _ => ⟨hg, rfl⟩
  | (s, chk) :: r, p, past, hr, hlen, hp, hg, hb => by
    have h0' := hr 0 (by simp)
    simp at h0'
    obtain ⟨rfl, rfl⟩ := h0'
    have hsucc : cst D S t0 h0 (p + 1) = (putE (S p).d (sv D (S p) (cst D S t0 h0 p).1 (cst D S t0 h0 p).2.1 (cst D S t0 h0 p).2.2).1 (cst D S t0 h0 p).1, putT (S p).d (sv D (S p) (cst D S t0 h0 p).1 (cst D S t0 h0 p).2.1 (cst D S t0 h0 p).2.2).1 (cst D S t0 h0 p).2.1, (sv D (S p) (cst D S t0 h0 p).1 (cst D S t0 h0 p).2.1 (cst D S t0 h0 p).2.2).2) := rfl
    have next : ∀ pa, (∀ h, pa.ok h = true → Stab D S t0 h0 p h) → Good D S C (p + 1) t0 h0 →
        drGo D r (past ++ [pa]) (cst D S t0 h0 (p + 1)).1 (cst D S t0 h0 (p + 1)).2.1 (cst D S t0 h0 (p + 1)).2.2 ≠ .bad →
        Good D S C (p + (r.length + 1)) t0 h0 ∧ drGo D r (past ++ [pa]) (cst D S t0 h0 (p + 1)).1 (cst D S t0 h0 (p + 1)).2.1 (cst D S t0 h0 (p + 1)).2.2 = .norm (cst D S t0 h0 (p + (r.length + 1))).2.1 (cst D S t0 h0 (p + (r.length + 1))).2.2 := fun pa hpa hg' hb' => by
      have := good_step (C := C) r (p + 1) (past ++ [pa]) (fun i hi => by have := hr (i + 1) (by simp; omega); simpa [Nat.add_assoc, Nat.add_comm 1 i] using this) (by simp [hlen]) (fun q pa' hq h hok => by
        rw [List.getElem?_append] at hq
        split at hq
        · exact hp q pa' hq h hok
        · have : q = p := by
            rename_i hn
            rw [hlen] at hn hq
            have h3 := (List.getElem?_eq_some_iff.1 hq).1
            simp at h3
            omega
          subst this
          rw [hlen] at hq
          simp at hq
          subst hq
          exact hpa h hok) hg' hb'
      rw [show p + (r.length + 1) = p + 1 + r.length by omega]
      exact this
    have build : (let c := cst D S t0 h0 p; gdv (S p).g c.1 c.2.1 = some false ∨ (gdv (S p).g c.1 c.2.1 = some true ∧ (S p).o.run D c.1 c.2.1 c.2.2 = .ret (sv D (S p) c.1 c.2.1 c.2.2).1 (sv D (S p) c.1 c.2.1 c.2.2).2)) → Stab D S t0 h0 p (cst D S t0 h0 (p + 1)).2.2 →
        (gdv (S p).g (cst D S t0 h0 p).1 (cst D S t0 h0 p).2.1 = some true → ∀ q ∈ C p, q < p → Stab D S t0 h0 q (cst D S t0 h0 (p + 1)).2.2) → Good D S C (p + 1) t0 h0 := fun h1 h2 h3 =>
      ⟨ext1 hg.run h1, ext1 hg.self h2, ext1 hg.chk h3⟩
    simp only [drGo] at hb ⊢
    simp only [List.length_cons]
    cases hgd : gdv (S p).g (cst D S t0 h0 p).1 (cst D S t0 h0 p).2.1 with
    | none => rw [hgd] at hb; exact absurd rfl hb
    | some b =>
      rw [hgd] at hb
      cases b with
      | false =>
        simp only at hb ⊢
        have hsv : sv D (S p) (cst D S t0 h0 p).1 (cst D S t0 h0 p).2.1 (cst D S t0 h0 p).2.2 = (.bot, (cst D S t0 h0 p).2.2) := by simp only [sv, hgd]
        rw [hsv] at hsucc
        simp only [hsucc] at next
        exact next .skip (fun h _ => .inl hgd) (build (.inl hgd) (.inl hgd) (fun h => by rw [hgd] at h; cases h)) hb
      | true =>
        simp only at hb ⊢
        cases hrun : (S p).o.run D (cst D S t0 h0 p).1 (cst D S t0 h0 p).2.1 (cst D S t0 h0 p).2.2 with
        | panic v h' => rw [hrun] at hb; exact absurd rfl hb
        | bad => rw [hrun] at hb; exact absurd rfl hb
        | ret v h' =>
          rw [hrun] at hb
          simp only at hb ⊢
          have hsv : sv D (S p) (cst D S t0 h0 p).1 (cst D S t0 h0 p).2.1 (cst D S t0 h0 p).2.2 = (v, h') := by simp only [sv, hgd, hrun]
          rw [hsv] at hsucc
          cases hpa : paOf (S p).o (cst D S t0 h0 p).1 (cst D S t0 h0 p).2.1 (cst D S t0 h0 p).2.2 v h' with
          | none => rw [hpa] at hb; exact absurd rfl hb
          | some pa =>
            rw [hpa] at hb
            simp only at hb ⊢
            cases hchk : chkAll h' past (C p) with
            | false => rw [hchk] at hb; exact absurd rfl hb
            | true =>
              rw [hchk] at hb
              simp only [cond_true] at hb ⊢
              -- what is held of this operation
              have hstab : ∀ h, pa.ok h = true → Stab D S t0 h0 p h := by
                intro h hok
                refine .inr ⟨fun m hm => ?_, fun f hf hal => ?_⟩
                · rw [hm] at hpa
                  cases hpa
                  simp only [Pa.ok] at hok
                  split at hok
                  · rename_i v2 hv2
                    rw [hv2, hsv, eqA_ok hok]
                  · cases hok
                · rw [hf] at hpa
                  simp only [paOf, hal, cond_true] at hpa
                  split at hpa
                  · rename_i l mk l2 hget hal2
                    obtain ⟨heq, hpa⟩ := bif_some hpa
                    cases hpa
                    have heq := eqAs_ok heq
                    subst heq
                    simp only [Pa.ok] at hok
                    split at hok
                    · rename_i l3 hl3
                      exact ⟨mk, l, hal2, by rw [hl3, eqAs_ok hok]⟩
                    · cases hok
                  · cases hpa
              have hself : Stab D S t0 h0 p h' := by
                refine .inr ⟨fun m hm => ?_, fun f hf hal => ?_⟩
                · rw [hm] at hrun
                  simp only [Op1.run] at hrun
                  split at hrun
                  · rename_i v2 hv2
                    cases hrun
                    rw [hsv]
                    exact hv2
                  · cases hrun
                · rw [hf] at hpa
                  simp only [paOf, hal, cond_true] at hpa
                  split at hpa
                  · rename_i l mk l2 hget hal2
                    obtain ⟨heq, hpa⟩ := bif_some hpa
                    have heq := eqAs_ok heq
                    subst heq
                    exact ⟨mk, l, hal2, hget⟩
                  · cases hpa
              simp only [hsucc] at next
              refine next pa hstab (build (.inr ⟨hgd, by rw [hsv]; exact hrun⟩) (by rw [hsucc]; exact hself) (fun _ q hq hqp => ?_)) hb
              rw [hsucc]
              have hql : q < past.length := by omega
              exact hp q _ (List.getElem?_eq_getElem hql) h' (chkAll_ok hchk q hq _ (List.getElem?_eq_getElem hql))
end
end Am
end Go.Proofs.Ytmfobcejnkakpaa
