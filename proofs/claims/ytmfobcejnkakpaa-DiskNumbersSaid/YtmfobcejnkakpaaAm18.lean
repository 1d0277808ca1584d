/- The plain machine: a region that draws its order, whole. -/
import Derived.Test.YtmfobcejnkakpaaAm17
namespace Go.Proofs.Ytmfobcejnkakpaa
set_option linter.unusedVariables false
set_option linter.unusedSimpArgs false
namespace Am
open Go.RowKit
set_option maxRecDepth 10000
variable {P : Program}
section
variable {O : Objs} {D : Dp O.X} {w0 : World} {keep : List Nat} {nt : Nat} {ds : List Deferred} {m0 : Mu} {n0 : Nat} {ops : Array Oper} {S : Nat → St1} {C : Nat → List Nat} {I : Nat → Nat} {A : Nat → List Nat} {t0 : List AV} {h0 : Hp O.X}

theorem anc_lt (hS : DrSt P keep nt ops S C I A) : ∀ (p : Nat), p < ops.size → ∀ q ∈ A p, q < p := by
  intro p
  induction p using Nat.strongRecOn with
  | _ p ih =>
    intro hp q hq
    obtain ⟨o, ho⟩ : ∃ o, ops[I p]? = some o := ⟨_, Array.getElem?_eq_getElem (hS.lt p hp)⟩
    obtain ⟨e, r, _, _, h3, _, h5⟩ := hS.anc p o q hp ho hq
    rcases h5 with rfl | h5
    · exact h3
    · have := ih r h3 (by omega) q h5
      omega
theorem count_up {L : Nat → Bool} {n p : Nat} (hp : p < n) (hL : L p = false) : (List.range n).countP (fun q => !upL L p q) + 1 ≤ (List.range n).countP (fun q => !L q) := by
  induction n with
  | zero => omega
  | succ n ih =>
    rw [List.range_succ, List.countP_append, List.countP_append]
    by_cases e : p = n
    · subst e
      have h1 : (List.range p).countP (fun q => !upL L p q) ≤ (List.range p).countP (fun q => !L q) := by
        refine List.countP_mono_left fun q _ h => ?_
        unfold upL at h
        split at h
        · cases h
        · exact h
      have h2 : [p].countP (fun q => !upL L p q) = 0 := by simp [upL]
      have h3 : [p].countP (fun q => !L q) = 1 := by simp [hL]
      omega
    · have h1 := ih (by omega)
      have h2 : [n].countP (fun q => !upL L p q) = [n].countP (fun q => !L q) := by
        have : upL L p n = L n := by unfold upL; rw [if_neg (Ne.symm e)]
        simp [this]
      omega
theorem all_ready (hS : DrSt P keep nt ops S C I A) {L : Nat → Bool} {k : Nat} {e : En} {t : List AV} {listed : Array Bool} {a : Act} {w : World} (hI : Inv P O D w0 keep nt ds m0 n0 ops S I A t0 h0 L k e t listed a w) (hr : Region.ready .any ops listed = []) : ∀ p, p < ops.size → L p = true := by
  intro p
  induction p using Nat.strongRecOn with
  | _ p ih =>
    intro hp
    cases hL : L p with
    | true => rfl
    | false =>
      exfalso
      obtain ⟨o, ho⟩ : ∃ o, ops[I p]? = some o := ⟨_, Array.getElem?_eq_getElem (hS.lt p hp)⟩
      have : I p ∈ Region.ready .any ops listed := mem_ready.2 ⟨by rw [(hI.lst p hp).1]; exact hL, o, ho, fun e he hb => by
        obtain ⟨q, h1, h2⟩ := hS.edge p o e hp ho he hb
        rw [← h2, (hI.lst q (by omega)).2]
        exact ih q h1 (by omega)⟩
      rw [hr] at this
      cases this
theorem all_done (hS : DrSt P keep nt ops S C I A) (hlen : t0.length = keep.length) {L : Nat → Bool} {k : Nat} {e : En} {t : List AV} {listed : Array Bool} {a : Act} {w : World} (hI : Inv P O D w0 keep nt ds m0 n0 ops S I A t0 h0 L k e t listed a w) (hall : ∀ p, p < ops.size → L p = true) :
    QP O w0 keep nt ds m0 n0 (.norm (cst D S t0 h0 ops.size).2.1 (cst D S t0 h0 ops.size).2.2) .normal a w := by
  have hk : k = ops.size := by
    rcases hI.kbar with h | h
    · exact h
    · by_cases hlt : k < ops.size
      · have h1 := hI.high k (Nat.le_refl _) hlt
        rw [hall k hlt] at h1; cases h1
      · have := hI.kle; omega
  subst hk
  obtain ⟨m, φ, h1, h2, h3, h4, h5, _⟩ := hI.mem
  refine ⟨rfl, m, φ, h1, h2, h3, ⟨h4.size, cst_len hlen _, h4.nd, fun d _ => by simp [lookE, VR], fun i d hd => ?_⟩, h5⟩
  have e1 : getS (cst D S t0 h0 ops.size).2.1 i = getS t i := by
    have hc := cst_ev (D := D) (h0 := h0) hS hlen (.slot i) ops.size (Nat.le_refl _)
    have hv := hI.env (.slot i)
    simp only [Od.ev] at hc hv
    rcases hc with ⟨g1, g2⟩ | ⟨q, g1, g2, g3⟩
    · rcases hv with ⟨v1, v2⟩ | ⟨r, v1, v2, v3, v4⟩
      · rw [g2, v2]
      · have := g1 r v1; rw [v3] at this; cases this
    · rcases hv with ⟨v1, v2⟩ | ⟨r, v1, v2, v3, v4⟩
      · have := v1 q g1 (hall q g1); rw [g2] at this; cases this
      · have : q = r := by
          by_cases e : q = r
          · exact e
          · have := hS.once q r g1 v1 e
            rw [hits_clash g2 v3] at this; cases this
        subst this
        rw [g3, v4]
  rw [e1]
  exact h4.slot i d hd
theorem wanted_of {m : Mu} {e : En} {t : List AV} {a : Act} (f : FR m keep nt e t a) {o : Oper} {g : Option (Od × Bool)} {b : Bool}
    (hg : (o.guard = none ∧ g = none) ∨ ∃ j want d od, o.guard = some (j, want) ∧ g = some (od, want) ∧ (ops[j]?).bind (·.dst) = some d ∧ odOf keep (.tmp d) = some od) (h : gdv g e t = some b) : Region.wanted o (yielded ops a.tmps) = b := by
  rcases hg with ⟨hg, rfl⟩ | ⟨j, want, d, od, hg, rfl, hj, hod⟩
  · cases h; simp [Region.wanted, hg]
  · simp only [gdv] at h
    split at h
    · rename_i c hc
      cases h
      have hy := yield_bool f hj hod hc
      simp only [Region.wanted, hg, hy]
      rw [Bool.eq_iff_iff]
      simp
    · cases h

theorem mono_le {k : Nat} {n : Nat → Nat} (H : ∀ p, p < k → n p ≤ n (p + 1)) {j : Nat} : ∀ {i : Nat}, j ≤ i → i ≤ k → n j ≤ n i := by
  intro i h1 h2
  induction i with
  | zero =>
    have e : j = 0 := by omega
    rw [e]
    exact Nat.le_refl _
  | succ i ih =>
    by_cases e : j = i + 1
    · rw [e]; exact Nat.le_refl _
    · exact Nat.le_trans (ih (by omega) (by omega)) (H i (by omega))
set_option maxHeartbeats 1000000 in
theorem dr_any (hD : DS P O D) (hS : DrSt P keep nt ops S C I A) (hG : Good D S C ops.size t0 h0) (hlen : t0.length = keep.length) : ∀ (fuel : Nat) (L : Nat → Bool) (k : Nat) (e : En) (t : List AV) (listed : Array Bool) (a : Act) (w : World),
    Inv P O D w0 keep nt ds m0 n0 ops S I A t0 h0 L k e t listed a w → (List.range ops.size).countP (fun q => !L q) ≤ fuel →
    wpAny P .any ops (QP O w0 keep nt ds m0 n0 (.norm (cst D S t0 h0 ops.size).2.1 (cst D S t0 h0 ops.size).2.2)) fuel listed a w := by
  intro fuel
  induction fuel with
  | zero =>
    intro L k e t listed a w hI hc
    have hall : ∀ p, p < ops.size → L p = true := fun p hp => by
      cases hL : L p with
      | true => rfl
      | false =>
        have := count_up hp hL
        omega
    refine ⟨?_, all_done hS hlen hI hall⟩
    rw [List.eq_nil_iff_forall_not_mem]
    intro i hi
    obtain ⟨h1, o, ho, _⟩ := mem_ready.1 hi
    obtain ⟨p, hp, rfl⟩ := hS.onto i (Array.getElem?_eq_some_iff.1 ho).1
    rw [(hI.lst p hp).1, hall p hp] at h1
    cases h1
  | succ fuel ih =>
    intro L k e t listed a w hI hc
    refine ⟨fun hr => all_done hS hlen hI (all_ready hS hI hr), fun i hi => ?_⟩
    obtain ⟨h1, o, ho, hedge⟩ := mem_ready.1 hi
    obtain ⟨p, hp, rfl⟩ := hS.onto i (Array.getElem?_eq_some_iff.1 ho).1
    have hL : L p = false := by rw [← (hI.lst p hp).1]; exact h1
    have hanc : ∀ q ∈ A p, L q = true := fun q hq => by
      obtain ⟨e, r, he, hb, hr, hre, h5⟩ := hS.anc p o q hp ho hq
      have hLr : L r = true := by rw [← (hI.lst r (by omega)).2, hre]; exact hedge e he hb
      rcases h5 with rfl | h5
      · exact hLr
      · exact hI.closed r q (by omega) hLr h5
    obtain ⟨hst, halc, hmov⟩ := hS.st p o hp ho
    obtain ⟨g, pp, hSp, hop, hdst, hgd⟩ := hst.ok
    have hx := reads_same hS hlen hI hp hL hanc
    have hgc := gdv_congr hx
    have hcount := count_up hp hL
    have hSg : (S p).g = g := by rw [hSp]; rfl
    have hSd : (S p).d = dsOf keep o.dst := by rw [hSp]; rfl
    have hSo : (S p).o = pp := by rw [hSp]; rfl
    obtain ⟨m, φ, b1, b2, b3, b4, b5, b6⟩ := hI.mem
    have hdef : ∀ v', (a.put o.dst v').defers = ds := fun v' => by cases o.dst <;> exact b5
    unfold wpOp
    simp only [ho]
    by_cases hpk : p < k
    · -- put off till now
      have hdf : (S p).o.df = true := by
        cases h : (S p).o.df with
        | true => rfl
        | false => have := hI.low p hpk h; rw [hL] at this; cases this
      -- what follows, once it is done
      have go : ∀ (m2 : Mu) (φ2 : Ph) (w2 : World) (v' : Value), (∀ g, g < n0 → m2 g = m0 g) → SR O w0 w2 m2 φ2 (cst D S t0 h0 k).2.2 → Ext m m2 → (∀ g, g ≠ (cst D S t0 h0 p).2.2.n → m2 g = m g) →
          VR m2 (sv D (S p) (cst D S t0 h0 p).1 (cst D S t0 h0 p).2.1 (cst D S t0 h0 p).2.2).1 v' → (∀ q, q < k → upL L p q = false → (S q).o.isAlc = true → gdv (S q).g (cst D S t0 h0 q).1 (cst D S t0 h0 q).2.1 = some true → m2 (cst D S t0 h0 q).2.2.n = none) →
          wpAny P .any ops (QP O w0 keep nt ds m0 n0 (.norm (cst D S t0 h0 ops.size).2.1 (cst D S t0 h0 ops.size).2.2)) fuel (listed.setIfInBounds (I p) true) (a.put o.dst v') w2 := by
        intro m2 φ2 w2 v' c1 c2 c3 c4 c5 c6
        refine ih _ _ _ _ _ _ _ (inv_next (a2 := a.put o.dst v') (w2 := w2) hS hI hp hL hanc (Nat.le_refl k) hI.kle hI.kbar hpk (fun q h1 h2 => by omega) hI.high (fun q h1 h2 => ?_) (fun q h1 h2 => by omega) ?_) (by omega)
        · have hne : q ≠ p := fun e => by subst e; simp [upL] at h2
          simp only [upL, if_neg hne] at h2
          exact hI.stab q h1 h2
        · refine ⟨m2, φ2, c1, b2, c2, ?_, hdef v', fun q h1 h2 h3 h4 => ?_⟩
          · rw [hSd]
            exact (b4.ext c3).put hdst c5
          · have hne : q ≠ p := fun e => by subst e; simp [upL] at h2
            have h2' := h2
            simp only [upL, if_neg hne] at h2'
            exact ⟨c6 q h1 h2 h3 h4, (b6 q h1 h2' h3 h4).2⟩
      have ghosts : ∀ q, q < k → upL L p q = false → (S q).o.isAlc = true → gdv (S q).g (cst D S t0 h0 q).1 (cst D S t0 h0 q).2.1 = some true → m (cst D S t0 h0 q).2.2.n = none := fun q h1 h2 h3 h4 => by
        have hne : q ≠ p := fun e => by subst e; simp [upL] at h2
        simp only [upL, if_neg hne] at h2
        exact (b6 q h1 h2 h3 h4).1
      rcases hG.run p hp with hsk | ⟨hgt, hrun⟩
      · have hwant : Region.wanted o (yielded ops a.tmps) = false := wanted_of b4 hgd (by rw [← hSg, hgc]; exact hsk)
        rw [if_neg (by rw [hwant]; decide)]
        exact go m φ w undef b1 b3 (Ext.refl _) (fun _ _ => rfl) (by simp only [sv, hsk]; simp [VR]) ghosts
      · have hwant : Region.wanted o (yielded ops a.tmps) = true := wanted_of b4 hgd (by rw [← hSg, hgc]; exact hgt)
        rw [if_pos hwant]
        left
        have hstab := hI.stab p hpk hL
        unfold Oper.wp
        rcases hstab with hst0 | ⟨hstm, hsta⟩
        · rw [hgt] at hst0; cases hst0
        · cases hoo : (S p).o with
          | mov mv =>
            have h2 := hstm mv hoo
            rw [← Mv.congr (fun x hxx => o_congr hx x (by rw [hoo]; exact hxx))] at h2
            obtain ⟨v', h3, h4⟩ := hmov mv hoo b3 b4 h2
            rw [h4]
            exact go m φ w v' b1 b3 (Ext.refl _) (fun _ _ => rfl) h3 ghosts
          | eff f =>
            have hal : f.isAlc = true := by rw [hoo] at hdf; simpa [Op1.df, Op1.isMov, Op1.isAlc] using hdf
            obtain ⟨mk, l, ha1, ha2⟩ := hsta f hoo hal
            have ha3 : f.alc e t = some (mk, l) := by rw [alc_congr hal (fun x hxx => o_congr hx x (by rw [hoo]; exact hxx))]; exact ha1
            obtain ⟨cs, ty, v', z, r1, r2, r3, r4⟩ := halc f hoo hal w b4 ha3
            obtain ⟨q1, q2, q3⟩ := b6 p hpk hL (by rw [hoo]; exact hal) hgt
            have hV : (sv D (S p) (cst D S t0 h0 p).1 (cst D S t0 h0 p).2.1 (cst D S t0 h0 p).2.2).1 = mk (cst D S t0 h0 p).2.2.n := by
              rw [hoo] at hrun
              simp only [Op1.run, alc_ev hal, ha1, Option.map_some, FRes.ret.injEq] at hrun
              exact hrun.1.symm
            rw [r1]
            refine go _ _ _ v' (fun g hg => ?_) (SR.realize (z := z) b3 ha2 q1 q3 r2 r3) (Mu.ext_set q1 _) (fun g hg => by simp [Mu.set, hg]) (by rw [hV]; exact r4 _ _ (Mu.set_self _ _ _)) (fun q h1 h2 h3 h4 => ?_)
            · rw [← b1 g hg]; simp [Mu.set]; omega
            · have := ghosts q h1 h2 h3 h4
              have hne : q ≠ p := fun e => by subst e; simp [upL] at h2
              -- two blocks that wait are two
              have step : ∀ r, r < k → L r = false → (S r).o.isAlc = true → gdv (S r).g (cst D S t0 h0 r).1 (cst D S t0 h0 r).2.1 = some true → (cst D S t0 h0 r).2.2.n < (cst D S t0 h0 (r + 1)).2.2.n := fun r e1 e2 e3 e4 => by
                rcases heap_df hG (p := r) (by have := hI.kle; omega) (by simp [Op1.df, e3]) with ⟨_, h⟩ | ⟨_, c, h⟩
                · rw [h e3] at e4; cases e4
                · rw [h]; exact Nat.lt_succ_self _
              have hnn : (cst D S t0 h0 q).2.2.n ≠ (cst D S t0 h0 p).2.2.n := by
                have h2' := h2
                simp only [upL, if_neg hne] at h2'
                by_cases hqp : q < p
                · have s1 := step q h1 h2' h3 h4
                  have s2 := mono_le (n := fun x => (cst D S t0 h0 x).2.2.n) hI.mono (j := q + 1) (i := p) hqp (by omega)
                  omega
                · have s1 := step p hpk hL (by rw [hoo]; exact hal) hgt
                  have s2 := mono_le (n := fun x => (cst D S t0 h0 x).2.2.n) hI.mono (j := p + 1) (i := q) (by omega) (by omega)
                  omega
              simp [Mu.set, hnn, this]
          | call f xs => rw [hoo] at hdf; cases hdf
          | calv f xs => rw [hoo] at hdf; cases hdf
          | pan x => rw [hoo] at hdf; cases hdf
    · -- the one that is not put off
      have hpk' : p = k := by
        by_cases e : p = k
        · exact e
        · exfalso
          have hkn : k < ops.size := by omega
          have hkb : (S k).o.df = false := by rcases hI.kbar with h | h; omega; exact h
          have h2 := hanc k (hS.bar k p (by omega) hp hkb)
          rw [hI.high k (Nat.le_refl _) hkn] at h2
          cases h2
      subst hpk'
      have hkb : (S p).o.df = false := by rcases hI.kbar with h | h; omega; exact h
      obtain ⟨k2, n1, n2, n3, n4⟩ := next_bar S ops.size (ops.size - (p + 1)) (p + 1) (by omega)
      have hnob : ∀ q, q < k2 → upL L p q = false → ∀ b, b < k2 → (S b).o.df = false → q ∉ A b := by
        intro q hq hu b hb hbd hqa
        have hne : q ≠ p := fun e => by subst e; simp [upL] at hu
        simp only [upL, if_neg hne] at hu
        have hbp : b ≤ p := by
          by_cases h : b ≤ p
          · exact h
          · have := n4 b (by omega) hb; rw [hbd] at this; cases this
        have hqb := anc_lt hS b (by omega) q hqa
        by_cases hbe : b = p
        · subst hbe
          rw [hanc q hqa] at hu; cases hu
        · have := hI.closed b q (by omega) (hI.low b (by omega) hbd) hqa
          rw [this] at hu; cases hu
      have go : ∀ (m2 : Mu) (φ2 : Ph) (w2 : World) (v' : Value), (∀ g, g < n0 → m2 g = m0 g) → n0 ≤ (cst D S t0 h0 (p + 1)).2.2.n → (cst D S t0 h0 p).2.2.n ≤ (cst D S t0 h0 (p + 1)).2.2.n → SR O w0 w2 m2 φ2 (cst D S t0 h0 (p + 1)).2.2 → Ext m m2 → (∀ g, g < (cst D S t0 h0 p).2.2.n → m2 g = m g) →
          VR m2 (sv D (S p) (cst D S t0 h0 p).1 (cst D S t0 h0 p).2.1 (cst D S t0 h0 p).2.2).1 v' →
          wpAny P .any ops (QP O w0 keep nt ds m0 n0 (.norm (cst D S t0 h0 ops.size).2.1 (cst D S t0 h0 ops.size).2.2)) fuel (listed.setIfInBounds (I p) true) (a.put o.dst v') w2 := by
        intro m2 φ2 w2 v' c1 c0 c00 c2 c3 c4 c5
        have hmono := heap_n hG (j := p + 1) (k := k2) n1 n2 n4
        refine ih _ _ _ _ _ _ _ (inv_next (k2 := k2) (a2 := a.put o.dst v') (w2 := w2) hS hI hp hL hanc (by omega) n2 n3 (by omega) (fun q h1 h2 h3 => ?_) (fun q h1 h2 => hI.high q (by omega) h2) (fun q h1 h2 => ?_) (fun q h1 h2 => ?_) ?_) (by omega)
        · by_cases e : q = p
          · exact e
          · have := n4 q (by omega) h2; rw [h3] at this; cases this
        · have hne : q ≠ p := fun e => by subst e; simp [upL] at h2
          have hnb := hnob q h1 h2
          simp only [upL, if_neg hne] at h2
          by_cases hqp : q < p
          · have hqd : (S q).o.df = true := by
              cases h : (S q).o.df with
              | true => rfl
              | false => have := hI.low q hqp h; rw [h2] at this; cases this
            exact stab_on hS hG hqp hqd (hI.stab q hqp h2) (by omega) n2 hnb
          · exact stab_on hS hG (Nat.lt_succ_self q) (n4 q (by omega) h1) (hG.self q (by omega)) (by omega) n2 hnb
        · by_cases e : q = p
          · rw [e]; exact c00
          · exact heap_n hG (j := q) (k := q + 1) (by omega) (by omega) (fun r h5 h6 => n4 r (by omega) (by omega))
        · refine ⟨m2, φ2, c1, by omega, advance hG c2 n1 n2 n4, ?_, hdef v', fun q h1 h2 h3 h4 => ?_⟩
          · rw [hSd]
            exact (b4.ext c3).put hdst c5
          · have hne : q ≠ p := fun e => by subst e; simp [upL] at h2
            simp only [upL, if_neg hne] at h2
            by_cases hqp : q < p
            · obtain ⟨d1, d2, d3⟩ := b6 q hqp h2 h3 h4
              exact ⟨by rw [c4 _ d3]; exact d1, d2, by omega⟩
            · have hge := heap_n hG (j := p + 1) (k := q) (by omega) (by omega) (fun r h5 h6 => n4 r h5 (by omega))
              have hlt : (cst D S t0 h0 q).2.2.n < (cst D S t0 h0 (q + 1)).2.2.n := by
                rcases heap_df hG (p := q) (by omega) (n4 q (by omega) h1) with ⟨_, h⟩ | ⟨_, c, h⟩
                · rw [h h3] at h4; cases h4
                · rw [h]; exact Nat.lt_succ_self _
              have hge2 := heap_n hG (j := q + 1) (k := k2) (by omega) n2 (fun r h5 h6 => n4 r (by omega) h6)
              refine ⟨?_, by omega, by omega⟩
              cases hm : m2 (cst D S t0 h0 q).2.2.n with
              | none => rfl
              | some pl => have := c2.dom _ _ hm; omega
      rcases hG.run p hp with hsk | ⟨hgt, hrun⟩
      · have hwant : Region.wanted o (yielded ops a.tmps) = false := wanted_of b4 hgd (by rw [← hSg, hgc]; exact hsk)
        rw [if_neg (by rw [hwant]; decide)]
        have e2 : (cst D S t0 h0 (p + 1)).2.2 = (cst D S t0 h0 p).2.2 := by
          show (sv D (S p) _ _ _).2 = _
          simp only [sv, hsk]
        exact go m φ w undef b1 (by rw [e2]; exact b2) (by rw [e2]; exact Nat.le_refl _) (by rw [e2]; exact b3) (Ext.refl _) (fun _ _ => rfl) (by simp only [sv, hsk]; simp [VR])
      · have hwant : Region.wanted o (yielded ops a.tmps) = true := wanted_of b4 hgd (by rw [← hSg, hgc]; exact hgt)
        rw [if_pos hwant]
        left
        have e2 : (cst D S t0 h0 (p + 1)).2.2 = (sv D (S p) (cst D S t0 h0 p).1 (cst D S t0 h0 p).2.1 (cst D S t0 h0 p).2.2).2 := rfl
        rw [← Op1.congr (o_congr hx)] at hrun
        rw [hSo] at hrun
        refine hop hD b3 b4 (by rw [hrun]; intro h; cases h) _ _ (fun v h' hv m' φ' w' v' g1 g2 g3 g4 => ?_) (fun v h' hv => by rw [hrun] at hv; cases hv)
        rw [hrun] at hv
        simp only [FRes.ret.injEq] at hv
        obtain ⟨rfl, rfl⟩ := hv
        rw [← e2] at g2 g3
        exact go m' φ' w' v' (fun g hg => by rw [g1 g (by omega), b1 g hg]) (by omega) g2 g3 (grow_ext b3 g1) g1 g4
end
end Am
end Go.Proofs.Ytmfobcejnkakpaa
