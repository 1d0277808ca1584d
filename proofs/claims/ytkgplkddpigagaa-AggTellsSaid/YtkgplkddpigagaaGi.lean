/- The plain machine: a law with arguments, in a seat without a disk (printed by tools/mkgi.py). -/
import Derived.Test.YtkgplkddpigagaaQaT
import Derived.Test.YtkgplkddpigagaaMH
import Derived.KernelRfl
import Derived.SizedLaws
import Derived.Test.YtkgplkddpigagaaRows
set_option linter.unusedVariables false
set_option linter.unusedSimpArgs false
namespace Go.Proofs.Ytkgplkddpigagaa
namespace Am
open Go.RowKit Go.ChangeShapes Go.WideShapes Go.ChangeAt Go.Deep
set_option maxRecDepth 10000
theorem SR.grow {O : Objs} {w0 w w' : World} {m : Mu} {φ : Ph} {h : Hp O.X} (H : SR O w0 w m φ h) (hu : Below w.heap.size w w') : SR O w0 w' m φ h :=
  ⟨below_upd H.below (Upd.of_below (S := NoBlock) hu) (fun b hb => hb.elim), fun g c hg p hp => (H.blk g c hg p hp).same fun ho k hk => hu.block k ((H.blk g c hg p hp).lt ho hk), H.dis, H.fresh, H.dom⟩
section
variable {P : Program}
theorem law_run {O : Objs} {E : Nat → Option (Ent O.X)} (hF : ∀ f e, E f = some e → ∀ N, FnOK P O f (entF N e)) {f : Nat} {xs : List AV} {args : List Value} {W : World} {m : Mu} {φ : Ph} {h : Hp O.X} (hs : SR O W W m φ h) (hv : VRs m xs args)
    (H : WF (lim E) f xs h fun r _ => r = .bool true) : Calls P f args.toArray W fun e W' => e = .returned (.bool true) ∧ Below W.heap.size W W' := by
  obtain ⟨v, h', e, rfl⟩ := H.out
  have hc := (lim_ds hF f xs h (by rw [e]; intro q; cases q)).2 hs hv
  rw [e] at hc
  refine hc.mono fun en w' hq => ?_
  obtain ⟨m', φ', v', k1, k2, k3, k4, rfl⟩ := hq
  simp only [VR] at k4
  subst k4
  exact ⟨rfl, k3.below⟩
noncomputable def n_true {X : Type} : Fn X := fun _ args h => match args with | [] => .ret (.bool true) h | _ => .bad
theorem true_n {O : Objs} {f : Nat} (hc : callable P f = true) (H : ∀ W : World, Calls P f #[] W fun e W' => e = .returned (.bool true) ∧ Below W.heap.size W W') : FnOK P O f n_true := by
  refine ⟨hc, fun {D} hD args h hb {w0 w m φ args'} hs hv => ?_⟩
  cases args with
  | cons a l => exact absurd rfl hb
  | nil =>
    simp only [VRs] at hv
    subst hv
    refine (H w).mono fun e w' ⟨he, hw⟩ => ?_
    subst he
    exact ⟨m, φ, .bool true, fun _ _ => rfl, Nat.le_refl _, hs.grow hw, by simp [VR], rfl⟩
theorem wf_true {X : Type} {E : Nat → Option (Ent X)} (hE : ∀ f e, E f = some e → e.plain) {f : Nat} (hf : E f = some (.nat n_true)) {h : Hp X} : WF (lim E) f [] h fun r h' => h' = h ∧ r = .bool true :=
  ⟨⟨_, _, lim_nat hE hf (D := lim E) (a := []) (h := h) (by intro q; cases q), rfl, rfl⟩⟩
structure Ini (O : Objs) (W : World) (m : Mu) (h : Hp O.X) : Prop where
  sr : ∃ φ, SR O W W m φ h
theorem ini0 (O : Objs) (W : World) : Ini O W (fun _ => none) h0 := ⟨⟨_, sr_h0 O W⟩⟩
section
variable {O : Objs} {W : World} {m : Mu} {h : Hp O.X}
theorem Ini.ro (H : Ini O W m h) {p : Pl} {l : List AV} (hb : p.b < W.heap.size) (hl : p.s + l.length ≤ p.e) (hr : RowR m l (fun i => W.cell? ⟨p.b, p.s + i, none⟩)) : Ini O W (m.set h.n p) (h.push (.ro l)) ∧ Ext m (m.set h.n p) := by
  obtain ⟨φ, H⟩ := H.sr
  have hx := Mu.ext_set H.none_n p
  exact ⟨⟨⟨φ.set h.n (fun _ => False), H.new (Below.refl _ _) ⟨hb, hl, hr.ext hx⟩ (fun q => by cases q)⟩⟩, hx⟩
theorem vrs_row {m : Mu} {l : List AV} {vs : List Value} {f : Nat → Option Value} (hv : VRs m l vs) (ho : ∀ x ∈ l, x.one = true) (hf : ∀ j u, vs[j]? = some u → f j = some u) : RowR m l f := fun i v hi => by
  obtain ⟨u, h1, h2⟩ := hv.get hi
  exact ⟨u, hf i u h1, h2, ho v (List.mem_of_getElem? hi)⟩
theorem Ini.slice (H : Ini O W m h) {z : Nat} {a : Option Addr} {n c : Nat} {vs : List Value} {l : List AV} (hz : 0 < z) (hr : Rd W z (.slice a n c) n vs) (hv : VRs m l vs) (ho : ∀ x ∈ l, x.one = true) :
    ∃ m' h' x, Ini O W m' h' ∧ Ext m m' ∧ Keep NoB h h' ∧ VR m' x (.slice a n c) ∧ RS h' z x n l ∧ (∀ g, blk x g → h.n ≤ g) := by
  have hr' := hr
  obtain ⟨h1, h2, a', c', e, h3, h4, h5, h6⟩ := hr
  simp only [Value.slice.injEq] at e
  obtain ⟨rfl, _, rfl⟩ := e
  have hlen : l.length = n * z := by rw [← h1]; exact hv.len.symm
  by_cases hn : n = 0
  · subst hn
    refine ⟨m, h, .semp, H, Ext.refl _, Keep.refl _ _, ?_, ⟨rfl, List.eq_nil_of_length_eq_zero (by simpa using hlen)⟩, fun g q => q.elim⟩
    simp only [VR]
    exact ⟨a, c, rfl, h4, fun e => (h5 e).2⟩
  · cases a with
    | none => exact absurd (h5 rfl).1 hn
    | some ad =>
      obtain ⟨hsp, hc⟩ := h6 ad rfl
      have hs := hsp (Nat.pos_of_ne_zero hn)
      obtain ⟨b, o, sp⟩ := ad
      simp only at hs
      subst hs
      have hnz : 0 < n * z := Nat.mul_pos (Nat.pos_of_ne_zero hn) hz
      have hb : b < W.heap.size := by
        have hj : vs[0]? = some (vs[0]'(by omega)) := List.getElem?_eq_getElem (by omega)
        have := hc 0 _ hj
        exact World.block_lt_of_cell? W _ this
      have hcz : n * z ≤ c * z := Nat.mul_le_mul_right _ h3
      obtain ⟨k1, k2⟩ := H.ro (p := ⟨b, o, o + c * z, z⟩) (l := l) hb (by simp only; omega) (vrs_row hv ho fun j u hu => hr'.cell rfl hu)
      refine ⟨_, _, .slice z h.n 0 n (some c), k1, k2, Keep.push _ _ _, ?_, ⟨rfl, rfl, Nat.lt_succ_self _, l, ?_, by omega, ?_⟩, fun g q => by cases q; exact Nat.le_refl _⟩
      · simp only [VR]
        exact ⟨_, ⟨b, o, none⟩, c, Mu.set_self _ _ _, rfl, h3, h4, fun _ => rfl, ⟨hz, rfl⟩, rfl⟩
      · unfold rowOf; rw [Hp.push_self]
      · rw [List.drop_zero, ← hlen, List.take_length]
theorem vrs_map {α : Type} {m : Mu} {f : α → AV} {g : α → Value} : ∀ {l : List α}, (∀ x ∈ l, VR m (f x) (g x)) → VRs m (l.map f) (l.map g)
  | [], _ => by simp [VRs]
  | x :: l, hx => by
    simp only [List.map_cons, VRs]
    exact ⟨_, _, rfl, hx x (List.mem_cons_self ..), vrs_map fun y hy => hx y (List.mem_cons_of_mem _ hy)⟩
theorem Ini.ints (H : Ini O W m h) {a : Option Addr} {c : Nat} {l : List Int} (hr : Rd W 1 (.slice a l.length c) l.length (l.map (Value.int .i64))) :
    ∃ m' h' x, Ini O W m' h' ∧ Ext m m' ∧ Keep NoB h h' ∧ VR m' x (.slice a l.length c) ∧ RS h' 1 x l.length (l.map iv) ∧ (∀ g, blk x g → h.n ≤ g) :=
  H.slice Nat.zero_lt_one hr (vrs_map fun x _ => by simp [iv, VR]) (fun x hx => by obtain ⟨_, _, rfl⟩ := List.mem_map.1 hx; rfl)
end
end
theorem vrs_nil {m : Mu} : VRs m [] [] := by simp only [VRs]
theorem vrs_cons {m : Mu} {a : AV} {v : Value} {xs : List AV} {l : List Value} (h : VR m a v) (hl : VRs m xs l) : VRs m (a :: xs) (v :: l) := by
  simp only [VRs]
  exact ⟨v, l, rfl, h, hl⟩
theorem vr_int {m : Mu} {k : IntKind} {n : Int} : VR m (.int k n) (.int k n) := by simp only [VR]
section
variable {O : Objs} {W : World} {m : Mu} {h : Hp O.X}
theorem Ini.each {α : Type} {f : α → Value} {Q : Hp O.X → AV → α → Prop} (hQ : ∀ {h h' : Hp O.X} {x : AV} {r : α}, Q h x r → Keep NoB h h' → Q h' x r) : ∀ {rs : List α} {m : Mu} {h : Hp O.X}, Ini O W m h →
    (∀ r ∈ rs, ∀ {m : Mu} {h : Hp O.X}, Ini O W m h → ∃ m' h' x, Ini O W m' h' ∧ Ext m m' ∧ Keep NoB h h' ∧ VR m' x (f r) ∧ x.one = true ∧ Q h' x r) →
    ∃ m' h' xs, Ini O W m' h' ∧ Ext m m' ∧ Keep NoB h h' ∧ VRs m' xs (rs.map f) ∧ (∀ x ∈ xs, x.one = true) ∧ xs.length = rs.length ∧ ∀ (i : Nat) x r, xs[i]? = some x → rs[i]? = some r → Q h' x r
  | [], m, h, hi, _ => ⟨m, h, [], hi, Ext.refl _, Keep.refl _ _, vrs_nil, (fun _ q => by cases q), rfl, fun i x r q => by simp at q⟩
  | r :: rs, m, h, hi, hr => by
    obtain ⟨m1, h1, x, i1, e1, k1, v1, o1, q1⟩ := hr r (List.mem_cons_self ..) hi
    obtain ⟨m2, h2, xs, i2, e2, k2, v2, o2, l2, q2⟩ := Ini.each (f := f) (Q := Q) hQ i1 (fun r' hr' => hr r' (List.mem_cons_of_mem _ hr'))
    refine ⟨m2, h2, x :: xs, i2, e1.trans e2, k1.and k2, vrs_cons (v1.ext e2) v2, fun y hy => ?_, by simp [l2], fun i y s hy hs => ?_⟩
    · rcases List.mem_cons.1 hy with rfl | hy
      · exact o1
      · exact o2 y hy
    · cases i with
      | zero => simp at hy hs; subst hy hs; exact hQ q1 k2
      | succ i => simp at hy hs; exact q2 i y s hy hs
theorem Ini.rows {α : Type} {f : α → Value} {Q : Hp O.X → AV → α → Prop} (hQ : ∀ {h h' : Hp O.X} {x : AV} {r : α}, Q h x r → Keep NoB h h' → Q h' x r) (H : Ini O W m h) {a : Option Addr} {c : Nat} {rs : List α} (hr : Rd W 1 (.slice a rs.length c) rs.length (rs.map f))
    (he : ∀ r ∈ rs, ∀ {m : Mu} {h : Hp O.X}, Ini O W m h → ∃ m' h' x, Ini O W m' h' ∧ Ext m m' ∧ Keep NoB h h' ∧ VR m' x (f r) ∧ x.one = true ∧ Q h' x r) :
    ∃ m' h' x xs, Ini O W m' h' ∧ Ext m m' ∧ Keep NoB h h' ∧ VR m' x (.slice a rs.length c) ∧ RS h' 1 x rs.length xs ∧ ∀ (i : Nat) y r, xs[i]? = some y → rs[i]? = some r → Q h' y r := by
  obtain ⟨m1, h1, xs, i1, e1, k1, v1, o1, l1, q1⟩ := Ini.each (f := f) (Q := Q) hQ H he
  obtain ⟨m2, h2, x, i2, e2, k2, v2, r2, _⟩ := i1.slice Nat.zero_lt_one hr v1 o1
  exact ⟨m2, h2, x, xs, i2, e1.trans e2, k1.and k2, v2, r2, fun i y r hy hs => hQ (q1 i y r hy hs) k2⟩
end
theorem rs_one {X : Type} {h : Hp X} {z n : Nat} {v : AV} {cells : List AV} (a : RS h z v n cells) : v.one = true := by
  cases v <;> first | exact a.elim | rfl
def IntsQ {X : Type} (h : Hp X) (x : AV) (l : List Int) : Prop := RS h 1 x l.length (l.map iv) ∧ (∀ y ∈ l, I64 y) ∧ l.length ≤ maxLen
theorem IntsQ.up {X : Type} {h h' : Hp X} {x : AV} {l : List Int} (a : IntsQ h x l) (k : Keep NoB h h') : IntsQ h' x l := ⟨a.1.up k, a.2⟩
structure IntssAt {X : Type} (h : Hp X) (x : AV) (ls : List (List Int)) : Prop where
  out : ∃ cells, RS h 1 x ls.length cells ∧ ∀ (i : Nat) y l, cells[i]? = some y → ls[i]? = some l → IntsQ h y l
  len : ls.length ≤ maxLen
theorem IntssAt.up {X : Type} {h h' : Hp X} {x : AV} {ls : List (List Int)} (a : IntssAt h x ls) (k : Keep NoB h h') : IntssAt h' x ls := by
  obtain ⟨cells, h1, h2⟩ := a.out
  exact ⟨⟨cells, h1.up k, fun i y l q1 q2 => (h2 i y l q1 q2).up k⟩, a.len⟩
structure OpIntss (W : World) (v : Value) : Prop where
  out : ∀ {m : Mu} {h : Hp O0.X}, Ini O0 W m h → ∃ (ls : List (List Int)) (m' : Mu) (h' : Hp O0.X) (x : AV), Ini O0 W m' h' ∧ Ext m m' ∧ Keep NoB h h' ∧ VR m' x v ∧ IntssAt h' x ls
abbrev RowI := Option Addr × List Int × Nat
def rowI (r : RowI) : Value := .slice r.1 r.2.1.length r.2.2
def RowInI (w : World) (r : RowI) : Prop := Rd w 1 (rowI r) r.2.1.length (r.2.1.map (Value.int .i64)) ∧ ∀ z ∈ r.2.1, -9223372036854775808 ≤ z ∧ z ≤ 9223372036854775807
theorem open_intss {H : Type} {enc : TypeId × Value → H} {W : World} {r : Reach} {b0 : Nat} {v : Value} {d : DataW H} {ps : List MemPlace} (hval : Value.okWide Try.prog W r b0 22 v) (h : DataW.Trod enc Try.prog W 0 (fun _ => true) true 22 v d ps) : OpIntss W v := by
  have hI : Try.prog.cellsOf 3 = 1 := by kernel_rfl
  have hC : Try.prog.cellsOf 30 = 1 := by kernel_rfl
  obtain ⟨a, vs, c, rfl, hr, hx⟩ := open_cells Try.underlying22 hC (okWide_slice Try.underlying22 hval) h
  obtain ⟨rs, rfl, h2⟩ := list_of (f := rowI) (q := RowInI W) (xs := vs) fun u hu => by
    obtain ⟨fuel, ⟨d, ps⟩, hf⟩ := hx u hu
    obtain ⟨a0, len, cap, rfl⟩ := shape_of Try.underlying30 hf
    obtain ⟨a, l, c, hv, hr, hz⟩ := open_i64s Try.underlying30 Try.underlying3 hI ⟨_, _, _, rfl⟩ (show DataW.Trod enc Try.prog W 0 (fun _ => true) true 30 (.slice a0 len cap) d ps from ⟨fuel, hf⟩)
    exact ⟨(a, l, c), hv, hr, hz⟩
  rw [List.length_map] at hr ⊢
  refine ⟨fun {m h} hi => ?_⟩
  obtain ⟨m', h', x, xs, i1, e1, k1, v1, r1, q1⟩ := hi.rows (f := rowI) (Q := fun h x r => IntsQ h x r.2.1) (fun {h h' x r} q k => q.up k) hr (fun r hrr {m h} hi => by
    obtain ⟨g1, g2⟩ := h2 r hrr
    obtain ⟨m', h', x, i1, e1, k1, v1, r1, _⟩ := hi.ints g1
    exact ⟨m', h', x, i1, e1, k1, v1, rs_one r1, r1, g2, g1.2.1⟩)
  refine ⟨rs.map fun r => r.2.1, m', h', x, i1, e1, k1, v1, ⟨xs, by rw [List.length_map]; exact r1, fun i y l h1 h2 => ?_⟩, by rw [List.length_map]; exact hr.2.1⟩
  rw [List.getElem?_map] at h2
  obtain ⟨r, hr1, rfl⟩ := Option.map_eq_some_iff.1 h2
  exact q1 i y r h1 hr1
end Am
end Go.Proofs.Ytkgplkddpigagaa
