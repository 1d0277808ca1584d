/- A list of samples that a law is given, opened. -/
import Derived.Test.YtkgplkddpigagaaGi
set_option linter.unusedVariables false
set_option linter.unusedSimpArgs false
namespace Go.Proofs.Ytkgplkddpigagaa
namespace Am
open Go.RowKit Go.ChangeShapes Go.WideShapes Go.ChangeAt Go.Deep
set_option maxRecDepth 10000
section
variable {H : Type} {enc : TypeId × Value → H} {P : Program} {W : World}
theorem open_elems {t e : TypeId} {z : Nat} (ht : P.underlying t = some (.slice e)) (hC : P.cellsOf e = z) (hpos : 0 < z) {v : Value} {d : DataW H} {ps : List MemPlace}
    (hok : ∃ a len cap, v = .slice a len cap) (h : DataW.Trod enc P W 0 (fun _ => true) true t v d ps) :
    ∃ (a : Option Addr) (vs : List (List Value)) (c : Nat), v = .slice a vs.length c ∧ Rd W z (.slice a vs.length c) vs.length vs.flatten ∧
      ∀ cs ∈ vs, cs.length = z ∧ ∃ (n : Nat) (x : DataW H × List MemPlace), DataW.trod enc P W 0 (fun _ => true) true n e cs = some x := by
  obtain ⟨a0, len, cap, rfl⟩ := hok
  obtain ⟨fuel, hf⟩ := h
  rcases open_slice ht hf with ⟨hcs, _⟩ | ⟨a, len', cap', m, n, D, Pl, hcs, _, hl, hm, hmm, _, hx⟩
  · simp [Value.cells] at hcs
    obtain ⟨rfl, rfl, rfl⟩ := hcs
    exact ⟨none, [], 0, rfl, ⟨by simp, by unfold maxLen; simp, none, 0, rfl, Nat.le_refl _, by unfold maxLen; simp, (fun _ => ⟨rfl, rfl⟩), (fun _ h => by cases h)⟩, fun _ h => by cases h⟩
  · simp [Value.cells] at hcs
    obtain ⟨rfl, rfl, rfl⟩ := hcs
    have hlm : len ≤ m := by rw [hmm]; split <;> omega
    rw [hC] at hx
    obtain ⟨V, hV⟩ := choose_lt (α := List Value) (p := fun i cs => W.cells? 0 (a.add (i * z)) z = some cs ∧ DataW.trod enc P W 0 (fun _ => true) true n e cs = some (D i, Pl i)) (n := m) (fun i hi => hx i hi)
    have hlen : ∀ cs ∈ (List.range len).map V, cs.length = z := by
      intro cs hcs
      obtain ⟨i, hi, rfl⟩ := List.mem_map.1 hcs
      exact (World.cells?_some (hV i (by have := List.mem_range.1 hi; omega)).1).2.1
    have hsp : 0 < len → a.spot = none := fun h0 => by
      obtain ⟨_, hl0, hc0⟩ := World.cells?_some (hV 0 (by omega)).1
      have := hc0 0 hpos
      rw [List.getElem?_eq_getElem (by omega)] at this
      have e0 : (a.add (0 * z)).add 0 = a := by simp [Addr.add]
      rw [e0] at this
      exact World.cell?_spot this
    refine ⟨some a, (List.range len).map V, cap, by simp, ⟨?_, by simp; omega, some a, cap, rfl, by simpa using hl, hm, (fun h => by cases h), fun ad had => ?_⟩, fun cs hcs => ⟨hlen cs hcs, ?_⟩⟩
    · rw [List.length_flatten]
      have : ∀ l : List (List Value), (∀ c ∈ l, c.length = z) → (l.map List.length).sum = l.length * z := by
        intro l
        induction l with
        | nil => intro _; simp
        | cons c l ih =>
          intro hh
          rw [List.map_cons, List.sum_cons, ih (fun x hx => hh x (List.mem_cons_of_mem _ hx)), hh c (List.mem_cons_self ..), List.length_cons, Nat.succ_mul]
          omega
      exact this _ hlen
    · cases had
      refine ⟨fun h0 => hsp (by simpa using h0), fun j u hu => ?_⟩
      rw [flatten_at hpos hlen] at hu
      obtain ⟨cs, h1, h2⟩ := Option.bind_eq_some_iff.1 hu
      rw [List.getElem?_map] at h1
      obtain ⟨i, hi, rfl⟩ := Option.map_eq_some_iff.1 h1
      obtain ⟨hj, rfl⟩ := List.getElem?_eq_some_iff.1 hi
      simp at hj h2
      obtain ⟨_, hl0, hc0⟩ := World.cells?_some (hV (j / z) (by omega)).1
      have hmod : j % z < z := Nat.mod_lt _ hpos
      have := hc0 (j % z) hmod
      rw [h2, add_add] at this
      rw [← this]
      congr 2
      rw [Nat.mul_comm]
      exact (Nat.div_add_mod j z).symm
    · obtain ⟨k, hk, rfl⟩ := List.mem_map.1 hcs
      have hk := List.mem_range.1 hk
      exact ⟨n, _, (hV k (by omega)).2⟩
end
def sval (s : SM) : List Value := [.int .i64 s.t, .int .i64 s.q.1, .int .i64 s.q.2]
def SmI (s : SM) : Prop := I64 s.t ∧ I64Q s.q
theorem open_sample {H : Type} {enc : TypeId × Value → H} {W : World} {n : Nat} {cs : List Value} {x : DataW H × List MemPlace} (hl : cs.length = 3) (h : DataW.trod enc Try.prog W 0 (fun _ => true) true n 39 cs = some x) : ∃ s : SM, cs = sval s ∧ SmI s := by
  obtain ⟨fs, hu, ht, ho⟩ : ∃ fs, Try.prog.underlying 39 = some (.struct fs) ∧ fs.map (fun f => f.type) = #[2, 37] ∧ fs.map (fun f => f.offset) = #[0, 1] := ⟨_, Try.underlying39, by simp, by simp⟩
  obtain ⟨gs, gu, gt, go⟩ : ∃ fs, Try.prog.underlying 37 = some (.struct fs) ∧ fs.map (fun f => f.type) = #[2, 2] ∧ fs.map (fun f => f.offset) = #[0, 1] := ⟨_, Try.underlying37, by simp, by simp⟩
  have c1 : Try.prog.cellsOf 2 = 1 := by kernel_rfl
  have c2 : Try.prog.cellsOf 37 = 2 := by kernel_rfl
  have hty : ∀ {fs : Array Field} {ts : Array TypeId} {os : Array Nat}, fs.map (fun f => f.type) = ts → fs.map (fun f => f.offset) = os → ∀ (i : Nat) (t : TypeId) (o : Nat), ts[i]? = some t → os[i]? = some o → ∃ f : Field, fs[i]? = some f ∧ f.type = t ∧ f.offset = o := by
    intro fs ts os h1 h2 i t o hi hj
    rw [← h1, Array.getElem?_map] at hi
    rw [← h2, Array.getElem?_map] at hj
    obtain ⟨f, g1, g2⟩ := Option.map_eq_some_iff.1 hi
    obtain ⟨f', g3, g4⟩ := Option.map_eq_some_iff.1 hj
    rw [g1] at g3
    cases g3
    exact ⟨f, g1, g2, g4⟩
  obtain ⟨x0, x1, x2, rfl⟩ : ∃ x0 x1 x2, cs = [x0, x1, x2] := by
    match cs, hl with
    | [a, b, c], _ => exact ⟨a, b, c, rfl⟩
  obtain ⟨xs, n', _, _, _, hxl, hfd⟩ := DataW.trod_struct hu h
  have hsz : fs.size = 2 := by have := congrArg Array.size ht; simpa using this
  have hgz : gs.size = 2 := by have := congrArg Array.size gt; simpa using this
  obtain ⟨f0, a0, b0, d0⟩ := hty ht ho 0 2 0 rfl rfl
  obtain ⟨f1, a1, b1, d1⟩ := hty ht ho 1 37 1 rfl rfl
  have r0 := hfd 0 f0 a0
  have r1 := hfd 1 f1 a1
  rw [b0, d0, c1, List.getElem?_eq_getElem (by omega)] at r0
  rw [b1, d1, c2, List.getElem?_eq_getElem (by omega)] at r1
  obtain ⟨k0, e0, _, w0⟩ := DataW.trod_int Try.underlying2 r0
  obtain ⟨ys, m', _, _, _, hyl, hgd⟩ := DataW.trod_struct gu r1
  obtain ⟨g0, p0, q0, s0⟩ := hty gt go 0 2 0 rfl rfl
  obtain ⟨g1, p1, q1, s1⟩ := hty gt go 1 2 1 rfl rfl
  have t0 := hgd 0 g0 p0
  have t1 := hgd 1 g1 p1
  rw [q0, s0, c1, List.getElem?_eq_getElem (by omega)] at t0
  rw [q1, s1, c1, List.getElem?_eq_getElem (by omega)] at t1
  obtain ⟨k1, e1, _, w1⟩ := DataW.trod_int Try.underlying2 t0
  obtain ⟨k2, e2, _, w2⟩ := DataW.trod_int Try.underlying2 t1
  simp at e0 e1 e2
  subst e0 e1 e2
  exact ⟨⟨k0, (k1, k2)⟩, rfl, i64_of w0, i64_of w1, i64_of w2⟩
structure SmpsAt {X : Type} (h : Hp X) (x : AV) (l : List SM) : Prop where
  rs : RS h 3 x l.length (l.flatMap sc)
  len : l.length ≤ maxLen
  row : ∀ s ∈ l, I64 s.t ∧ I64Q s.q
theorem SmpsAt.up {X : Type} {h h' : Hp X} {x : AV} {l : List SM} (a : SmpsAt h x l) (k : Keep NoB h h') : SmpsAt h' x l := ⟨a.rs.up k, a.len, a.row⟩
structure OpSmps (W : World) (v : Value) : Prop where
  out : ∀ {m : Mu} {h : Hp O0.X}, Ini O0 W m h → ∃ (l : List SM) (m' : Mu) (h' : Hp O0.X) (x : AV), Ini O0 W m' h' ∧ Ext m m' ∧ Keep NoB h h' ∧ VR m' x v ∧ SmpsAt h' x l
theorem sval_vrs {m : Mu} : ∀ {l : List SM}, VRs m (l.flatMap sc) (l.map sval).flatten
  | [] => vrs_nil
  | s :: l => by
    show VRs m (sc s ++ l.flatMap sc) (sval s ++ (l.map sval).flatten)
    exact vrs_cons vr_int (vrs_cons vr_int (vrs_cons vr_int sval_vrs))
theorem open_smps {H : Type} {enc : TypeId × Value → H} {W : World} {r : Reach} {b0 : Nat} {v : Value} {d : DataW H} {ps : List MemPlace} (hval : Value.okWide Try.prog W r b0 23 v) (h : DataW.Trod enc Try.prog W 0 (fun _ => true) true 23 v d ps) : OpSmps W v := by
  have hC : Try.prog.cellsOf 39 = 3 := by kernel_rfl
  obtain ⟨a, vs, c, rfl, hr, hx⟩ := open_elems Try.underlying23 hC (by omega) (okWide_slice Try.underlying23 hval) h
  obtain ⟨ss, rfl, h2⟩ := list_of (f := sval) (q := SmI) (xs := vs) fun u hu => by
    obtain ⟨hl, n, x, hf⟩ := hx u hu
    exact open_sample hl hf
  rw [List.length_map] at hr ⊢
  refine ⟨fun {m h} hi => ?_⟩
  obtain ⟨m', h', x, i1, e1, k1, v1, r1, _⟩ := hi.slice (l := ss.flatMap sc) (by omega) hr sval_vrs (fun x hx => by
    obtain ⟨s, _, hs⟩ := List.mem_flatMap.1 hx
    simp [sc] at hs
    rcases hs with rfl | rfl | rfl <;> rfl)
  exact ⟨ss, m', h', x, i1, e1, k1, v1, r1, hr.2.1, fun s hs => h2 s hs⟩
end Am
end Go.Proofs.Ytkgplkddpigagaa
