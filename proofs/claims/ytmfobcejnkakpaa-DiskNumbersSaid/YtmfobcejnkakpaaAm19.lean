/- The plain machine: a region that draws its order, brought into its form. -/
import Derived.Test.YtmfobcejnkakpaaAm18
namespace Go.Proofs.Ytmfobcejnkakpaa
set_option linter.unusedVariables false
set_option linter.unusedSimpArgs false
namespace Am
open Go.RowKit
set_option maxRecDepth 10000
variable {P : Program}

def isMovO (P : Program) (keep : List Nat) (o : Oper) : Bool := match opOf P keep o with | some (.mov _) => true | _ => false
def isAlcO (P : Program) (keep : List Nat) (o : Oper) : Bool := match opOf P keep o with | some (.eff f) => f.isAlc | _ => false
/-- the fixed order: what only reads first, then what lays a block, then what else is ready -/
def ordGo (mv al : Array Bool) (ops : Array Oper) : Nat → Array Bool → List Nat
  | 0, _ => []
  | n + 1, l =>
    let rs := Region.ready .any ops l
    match rs.find? (fun i => mv.getD i false) with
    | some i => i :: ordGo mv al ops n (l.setIfInBounds i true)
    | none => match rs.find? (fun i => al.getD i false) with
      | some i => i :: ordGo mv al ops n (l.setIfInBounds i true)
      | none => match rs with
        | [] => []
        | i :: _ => i :: ordGo mv al ops n (l.setIfInBounds i true)
def ordOf (P : Program) (keep : List Nat) (ops : Array Oper) : List Nat :=
  ordGo (ops.map (isMovO P keep)) (ops.map (isAlcO P keep)) ops ops.size (Array.replicate ops.size false)
def stsOf (P : Program) (keep : List Nat) (nt : Nat) (ops : Array Oper) : List Nat → Option (List St1)
  | [] => some []
  | i :: l => match (ops[i]?).bind (stOf P keep nt ops), stsOf P keep nt ops l with
    | some s, some r => some (s :: r)
    | _, _ => none
def mem (l : List Nat) (x : Nat) : Bool := l.any (Nat.beq x)
def addAll : List Nat → List Nat → List Nat
  | [], acc => acc
  | x :: l, acc => addAll l (bif mem acc x then acc else acc ++ [x])
/-- whom each waits for -/
def ancGo (ops : Array Oper) (ord : List Nat) : List Nat → List (List Nat) → List (List Nat)
  | [], acc => acc
  | i :: l, acc =>
    let es := match ops[i]? with | some o => o.after.toList | none => []
    ancGo ops ord l (acc ++ [es.foldl (fun a e => bif Region.binds .any e then (let q := ord.findIdx (Nat.beq e.on); addAll (q :: acc.getD q []) a) else a) []])
def dflt : St1 := .mk none .none (.pan (.const .bot))
def chkOf (S : Nat → St1) (A : Nat → List Nat) (p : Nat) : List Nat :=
  bif (S p).o.isMov then [] else (List.range p).filter fun q => (S q).o.df && !((List.range (p + 1)).any fun b => !(S b).o.df && mem (A b) q)
def allB (n : Nat) (f : Nat → Bool) : Bool := (List.range n).all f
def drChk (P : Program) (keep : List Nat) (ops : Array Oper) (S : Nat → St1) (C : Nat → List Nat) (I : Nat → Nat) (A : Nat → List Nat) : Bool :=
  P.follows .mixedOrders &&
  (allB ops.size fun p =>
    Nat.blt (I p) ops.size && ((List.range ops.size).any fun q => Nat.beq (I q) p) &&
    (match (S p).d with | .slot i => Nat.blt i keep.length | _ => true) &&
    (match ops[I p]? with
      | some o =>
        (o.after.toList.all fun e => !(Region.binds .any e) || ((List.range p).any fun q => Nat.beq (I q) e.on)) &&
        ((A p).all fun q => o.after.toList.any fun e => Region.binds .any e && ((List.range p).any fun r => Nat.beq (I r) e.on && (Nat.beq q r || mem (A r) q)))
      | none => true) &&
    (allB ops.size fun q =>
      Nat.beq p q || (
        !(Nat.beq (I p) (I q)) && !(clash (S p).d (S q).d) &&
        ((S p).ods.all fun x => !(hits (S q).d x) || (mem (A p) q && Nat.blt q p) || (mem (A q) p && Nat.blt p q)) &&
        (!(Nat.blt q p) || (((S q).o.df || mem (A p) q) &&
          ((S p).o.isMov || !(S q).o.df || ((List.range (p + 1)).any fun b => !(S b).o.df && mem (A b) q) || mem (C p) q))))))

theorem mem_ok {l : List Nat} {x : Nat} (h : mem l x = true) : x ∈ l := by
  obtain ⟨y, h1, h2⟩ := List.any_eq_true.1 h
  rw [Nat.eq_of_beq_eq_true h2]; exact h1
theorem mem_no {l : List Nat} {x : Nat} (h : x ∈ l) : mem l x = true := List.any_eq_true.2 ⟨x, h, Nat.beq_refl x⟩
theorem allB_ok {n : Nat} {f : Nat → Bool} (h : allB n f = true) {p : Nat} (hp : p < n) : f p = true := List.all_eq_true.1 h p (List.mem_range.2 hp)
theorem any_range {n : Nat} {f : Nat → Bool} (h : (List.range n).any f = true) : ∃ q, q < n ∧ f q = true := by
  obtain ⟨q, h1, h2⟩ := List.any_eq_true.1 h
  exact ⟨q, List.mem_range.1 h1, h2⟩

theorem sts_get {keep : List Nat} {nt : Nat} {ops : Array Oper} : ∀ {l : List Nat} {r : List St1}, stsOf P keep nt ops l = some r → r.length = l.length ∧ ∀ (p i : Nat), l[p]? = some i → ∃ s o, r[p]? = some s ∧ ops[i]? = some o ∧ stOf P keep nt ops o = some s
  | [], r, h => by cases h; exact ⟨rfl, fun p i hp => by simp at hp⟩
  | j :: l, r, h => by
    simp only [stsOf] at h
    split at h
    · rename_i s r' h1 h2
      cases h
      obtain ⟨k1, k2⟩ := sts_get h2
      refine ⟨by simp [k1], fun p i hp => ?_⟩
      cases p with
      | zero =>
        simp at hp
        subst hp
        obtain ⟨o, h3, h4⟩ := Option.bind_eq_some_iff.1 h1
        exact ⟨s, o, rfl, h3, h4⟩
      | succ p => exact k2 p i (by simpa using hp)
    · cases h
theorem st_op {keep : List Nat} {nt : Nat} {ops : Array Oper} {o : Oper} {s : St1} (h : stOf P keep nt ops o = some s) : opOf P keep o = some s.o := by
  unfold stOf at h
  split at h
  · rename_i p g hp hg
    split at h
    · cases h; exact hp
    · cases h
  · cases h

theorem drSt_of {keep : List Nat} {nt : Nat} {ops : Array Oper} {S : Nat → St1} {C : Nat → List Nat} {I : Nat → Nat} {A : Nat → List Nat}
    (hst : ∀ p, p < ops.size → ∀ o, ops[I p]? = some o → stOf P keep nt ops o = some (S p)) (h : drChk P keep ops S C I A = true) : DrSt P keep nt ops S C I A := by
  unfold drChk at h
  rw [Bool.and_eq_true] at h
  obtain ⟨h0, h⟩ := h
  have H := fun p (hp : p < ops.size) => allB_ok h hp
  simp only [Bool.and_eq_true] at H
  have two : ∀ p q, p < ops.size → q < ops.size → p ≠ q → _ := fun p q hp hq hne => by
    have := allB_ok (H p hp).2 hq
    rw [nbeq hne, Bool.false_or] at this
    simp only [Bool.and_eq_true] at this
    exact this
  refine ⟨h0, fun p hp => ?_, fun i hi => ?_, fun p q hp hq he => ?_, fun p o hp ho => ?_, fun p o e hp ho he hb => ?_, fun p o q hp ho hq => ?_, fun q p hqp hp hd => ?_, fun p q x hp hq hne hx hh => ?_, fun p q hp hq hne => ?_, fun p i hp hd => ?_, fun p q hp hqp hm hd hno => ?_⟩
  · exact Nat.le_of_ble_eq_true (H p hp).1.1.1.1
  · obtain ⟨q, h1, h2⟩ := any_range (H i hi).1.1.1.2
    exact ⟨q, h1, Nat.eq_of_beq_eq_true h2⟩
  · by_cases hne : p = q
    · exact hne
    · have := (two p q hp hq hne).1.1.1
      rw [he, Nat.beq_refl] at this
      cases this
  · have := hst p hp o ho
    refine ⟨st_ok this, fun f hf hal => ?_, fun m hm => ?_⟩
    · exact alc_of (by rw [st_op this, hf]) hal
    · exact mov_of (by rw [st_op this, hm])
  · have := (H p hp).1.2
    rw [ho] at this
    simp only [Bool.and_eq_true] at this
    have := List.all_eq_true.1 this.1 e (Array.mem_toList_iff.2 he)
    rw [hb] at this
    simp only [Bool.not_true, Bool.false_or] at this
    obtain ⟨q, h1, h2⟩ := any_range this
    exact ⟨q, h1, Nat.eq_of_beq_eq_true h2⟩
  · have := (H p hp).1.2
    rw [ho] at this
    simp only [Bool.and_eq_true] at this
    have := List.all_eq_true.1 this.2 q hq
    obtain ⟨e, he, h2⟩ := List.any_eq_true.1 this
    rw [Bool.and_eq_true] at h2
    obtain ⟨hb, h2⟩ := h2
    obtain ⟨r, h3, h4⟩ := any_range h2
    rw [Bool.and_eq_true, Bool.or_eq_true] at h4
    exact ⟨e, r, Array.mem_toList_iff.1 he, hb, h3, Nat.eq_of_beq_eq_true h4.1, h4.2.imp Nat.eq_of_beq_eq_true mem_ok⟩
  · have := (two p q hp (by omega) (by omega)).2
    rw [(show Nat.blt q p = true by rw [Nat.blt_eq]; exact hqp), hd] at this
    simp only [Bool.not_true, Bool.false_or, Bool.and_eq_true] at this
    exact mem_ok this.1
  · have := List.all_eq_true.1 (two p q hp hq hne).1.2 x hx
    rw [hh] at this
    simp only [Bool.not_true, Bool.false_or, Bool.or_eq_true, Bool.and_eq_true, Nat.blt_eq] at this
    exact this.imp (fun h => ⟨mem_ok h.1, h.2⟩) (fun h => ⟨mem_ok h.1, h.2⟩)
  · simpa using (two p q hp hq hne).1.1.2
  · have := (H p hp).1.1.2
    rw [hd] at this
    simpa using this
  · have := (two p q hp (by omega) (by omega)).2
    rw [(show Nat.blt q p = true by rw [Nat.blt_eq]; exact hqp), hm, hd] at this
    simp only [Bool.not_true, Bool.false_or, Bool.and_eq_true, Bool.or_eq_true] at this
    rcases this.2 with h | h
    · obtain ⟨b, h1, h2⟩ := any_range h
      rw [Bool.and_eq_true] at h2
      exact absurd (mem_ok h2.2) (hno b (by omega) (by simpa using h2.1))
    · exact mem_ok h

def drOf (P : Program) (keep : List Nat) (nt : Nat) (ops : Array Oper) : Option Dr :=
  let ord := ordOf P keep ops
  match stsOf P keep nt ops ord with
  | some sts =>
    let anc := ancGo ops ord ord []
    let S := fun p => sts.getD p dflt
    let A := fun p => anc.getD p []
    let ch := (List.range ops.size).map (chkOf S A)
    bif Nat.beq ord.length ops.size && drChk P keep ops S (fun p => ch.getD p []) (fun p => ord.getD p 0) A then some (sts.zip ch) else none
  | none => none

set_option maxHeartbeats 1000000 in
theorem dr_ok {keep : List Nat} {nt : Nat} {ops : Array Oper} {id : Nat} {r : Dr} (h : drOf P keep nt ops = some r) : DrOK P keep nt (fun D => drR D) (.region id ops true) r := by
  unfold drOf at h
  simp only at h
  generalize ordOf P keep ops = ord at h
  split at h
  case h_2 => cases h
  rename_i sts hsts
  generalize ancGo ops ord ord [] = anc at h
  generalize hch : (List.range ops.size).map (chkOf (fun p => sts.getD p dflt) (fun p => anc.getD p [])) = ch at h
  obtain ⟨h1, h2⟩ := bif_some h
  cases h2
  rw [Bool.and_eq_true] at h1
  obtain ⟨hlo, hck⟩ := h1
  have hlo := Nat.eq_of_beq_eq_true hlo
  obtain ⟨hls, hget⟩ := sts_get hsts
  have hlc : ch.length = ops.size := by rw [← hch]; simp
  have hS : DrSt P keep nt ops (fun p => sts.getD p dflt) (fun p => ch.getD p []) (fun p => ord.getD p 0) (fun p => anc.getD p []) := by
    refine drSt_of (fun p hp o ho => ?_) hck
    have hpo : p < ord.length := by omega
    obtain ⟨s, o', g1, g2, g3⟩ := hget p _ (List.getElem?_eq_getElem hpo)
    simp only [List.getD_eq_getElem?_getD, List.getElem?_eq_getElem hpo, Option.getD_some] at ho
    rw [g2] at ho
    cases ho
    simp only [List.getD_eq_getElem?_getD, g1, Option.getD_some]
    exact g3
  generalize (fun p => ord.getD p 0) = I at hS
  generalize (fun p => anc.getD p []) = A at hS
  have hzip : ∀ i, i < (sts.zip ch).length → (sts.zip ch)[i]? = some (sts.getD i dflt, ch.getD i []) := fun i hi => by
    have hi2 := hi
    rw [List.length_zip] at hi2
    rw [List.getElem?_eq_getElem hi, List.getElem_zip]
    simp only [List.getD_eq_getElem?_getD, List.getElem?_eq_getElem (show i < sts.length by omega), List.getElem?_eq_getElem (show i < ch.length by omega), Option.getD_some]
  have hzl : (sts.zip ch).length = ops.size := by rw [List.length_zip]; omega
  generalize hSS : (fun p => sts.getD p dflt) = S at hS
  generalize hCC : (fun p => ch.getD p []) = C at hS
  have hzip : ∀ i, i < (sts.zip ch).length → (sts.zip ch)[i]? = some (S i, C i) := fun i hi => by rw [← hSS, ← hCC]; exact hzip i hi
  generalize sts.zip ch = r at hzip hzl
  intro O D hD w0 ds m0 n0 t h hb a w hst
  obtain ⟨m, φ, b1, b2, b3, b4, b5⟩ := hst
  have hlen : t.length = keep.length := b4.len
  obtain ⟨hG, hR⟩ := good_step (D := D) (S := S) (C := C) (t0 := t) (h0 := h) r 0 [] (fun i hi => by rw [Nat.zero_add]; exact hzip i hi) rfl (fun q pa hq => by simp at hq) ⟨fun p hp => absurd hp (Nat.not_lt_zero _), fun p hp => absurd hp (Nat.not_lt_zero _), fun p hp => absurd hp (Nat.not_lt_zero _)⟩ hb
  rw [Nat.zero_add, hzl] at hG hR
  have hR2 : drR D r t h = .norm (cst D S t h ops.size).2.1 (cst D S t h ops.size).2.2 := hR
  show Code.wp P _ (QP O w0 keep nt ds m0 n0 (drR D r t h)) a w
  rw [hR2]
  refine wp_region_any hS.mixed ?_
  obtain ⟨k, _, k2, k3, k4⟩ := next_bar S ops.size ops.size 0 (Nat.zero_add _)
  refine dr_any hD hS hG hlen ops.size (fun _ => false) k [] t _ a w.drew ⟨?_, fun p hp => ?_, k2, k3, fun p hp hd => ?_, fun p _ _ => rfl, fun p q _ hL => ?_, hlen, fun x => .inl ⟨fun q _ hL => ?_, rfl⟩, fun p hp _ => ?_, fun p hp => ?_, ?_⟩ ?_
  · simp
  · have := hS.lt p hp
    simp [Array.getD_eq_getD_getElem?, this]
  · rw [k4 p (Nat.zero_le _) hp] at hd; cases hd
  · cases hL
  · cases hL
  · exact stab_on hS hG (Nat.lt_succ_self p) (k4 p (Nat.zero_le _) hp) (hG.self p (by omega)) (by omega) k2 (fun b hb hbd => by rw [k4 b (Nat.zero_le _) hb] at hbd; cases hbd)
  · exact heap_n hG (j := p) (k := p + 1) (by omega) (by omega) (fun r h5 h6 => k4 r (Nat.zero_le _) (by omega))
  · have hn := heap_n hG (j := 0) (k := k) (Nat.zero_le _) k2 (fun r h5 h6 => k4 r (Nat.zero_le _) h6)
    have e0 : (cst D S t h 0).2.2 = h := rfl
    rw [e0] at hn
    have hA := advance hG (w := w.drew) (m := m) (φ := φ) (j := 0) (SR.drew b3) (Nat.zero_le _) k2 (fun r h5 h6 => k4 r (Nat.zero_le _) h6)
    refine ⟨m, φ, b1, by omega, hA, b4, b5, fun q h1 h2 h3 h4 => ?_⟩
    have hge := heap_n hG (j := 0) (k := q) (by omega) (by omega) (fun r h5 h6 => k4 r (Nat.zero_le _) (by omega))
    rw [e0] at hge
    have hlt : (cst D S t h q).2.2.n < (cst D S t h (q + 1)).2.2.n := by
      rcases heap_df hG (p := q) (by omega) (k4 q (Nat.zero_le _) h1) with ⟨_, h'⟩ | ⟨_, c, h'⟩
      · rw [h' h3] at h4; cases h4
      · rw [h']; exact Nat.lt_succ_self _
    have hge2 := heap_n hG (j := q + 1) (k := k) (by omega) k2 (fun r h5 h6 => k4 r (Nat.zero_le _) h6)
    refine ⟨?_, by omega, by omega⟩
    cases hm : m (cst D S t h q).2.2.n with
    | none => rfl
    | some pl => have := b3.dom _ _ hm; omega
  · refine Nat.le_trans List.countP_le_length ?_
    simp
/-- a function brought, that draws or not -/
theorem bfd_ok {O : Objs} {f : Nat} {keep : List Nat} {b : BF} (h : bfOf P (drOf P) f keep = some b) (N : Nat) : FnOK P O f (fun D args h => b.run (fun D => drR D) N D args h) :=
  bf_ok (fun _ _ _ _ _ _ hr => dr_ok hr) h N
end Am
end Go.Proofs.Ytmfobcejnkakpaa
