/- The plain machine: batches that a law is given, opened. -/
import Derived.Test.YthgcdoahoechhaaAm36
import Derived.Test.YthgcdoahoechhaaMH
import Derived.Test.YthgcdoahoechhaaMK
set_option linter.unusedVariables false
set_option linter.unusedSimpArgs false
namespace Go.Proofs.Ythgcdoahoechhaa
namespace Am
open Go.RowKit Go.ChangeShapes Go.WideShapes Go.ChangeAt Go.Deep
set_option maxRecDepth 10000
abbrev Row3B := Option Addr × Bs × Nat
abbrev RowE := Row3B × Row3B × Bool
def rb (r : Row3B) : Value := .slice r.1 r.2.1.length r.2.2
def fE (r : RowE) : List Value := [rb r.1, rb r.2.1, .bool r.2.2]
def mkE (r : RowE) : EM := ⟨r.1.2.1, r.2.1.2.1, r.2.2⟩
def RbIn (w : World) (r : Row3B) : Prop := Rd w 1 (rb r) r.2.1.length (r.2.1.map bv)
def RowInE (w : World) (r : RowE) : Prop := RbIn w r.1 ∧ RbIn w r.2.1
theorem open_ents {H : Type} {enc : TypeId × Value → H} {W : World} {v : Value} {d : DataW H} {ps : List MemPlace} (hok : ∃ a len cap, v = .slice a len cap) (h : DataW.Trod enc Try.prog W 0 (fun _ => true) true 46 v d ps) :
    ∃ (a : Option Addr) (rs : List RowE) (c : Nat), v = .slice a rs.length c ∧ Rd W 3 (.slice a rs.length c) rs.length (rs.map fE).flatten ∧ ∀ r ∈ rs, RowInE W r := by
  obtain ⟨fs, hu, ht, hone⟩ : ∃ fs, Try.prog.underlying 51 = some (.struct fs) ∧ fs.map (fun f => f.type) = #[33, 33, 4] ∧ oneCellFields Try.prog fs = true := ⟨_, Try.underlying51, by simp, by kernel_rfl⟩
  have hC : Try.prog.cellsOf 51 = 3 := by kernel_rfl
  have h8 : Try.prog.cellsOf 5 = 1 := by kernel_rfl
  have hsz : fs.size = 3 := by have := congrArg Array.size ht; simpa using this
  obtain ⟨a, vs, c, hv, hr, hx⟩ := open_structs Try.underlying46 hu hone (by rw [hC, hsz]) (by omega) hok h
  have hty : ∀ (i : Nat) (t : TypeId), (#[33, 33, 4] : Array TypeId)[i]? = some t → ∃ f : Field, fs[i]? = some f ∧ f.type = t := by
    intro i t hi
    rw [← ht, Array.getElem?_map] at hi
    exact Option.map_eq_some_iff.1 hi
  obtain ⟨rs, rfl, h2⟩ := list_of (f := fE) (q := RowInE W) (xs := vs) fun cs hcs => by
    obtain ⟨hl, hf⟩ := hx cs hcs
    rw [hsz] at hl
    obtain ⟨x0, x1, x2, rfl⟩ : ∃ x0 x1 x2, cs = [x0, x1, x2] := by
      match cs, hl with
      | [a, b, c], _ => exact ⟨a, b, c, rfl⟩
    have key : ∀ (i : Nat) (t : TypeId), (#[33, 33, 4] : Array TypeId)[i]? = some t → ∃ (n : Nat) (x : DataW H × List MemPlace), DataW.trod enc Try.prog W 0 (fun _ => true) true n t [[x0, x1, x2].getD i undef] = some x := fun i t hi => by
      obtain ⟨f, g1, g2⟩ := hty i t hi
      obtain ⟨n, x, hx⟩ := hf i f g1
      exact ⟨n, x, by rw [← g2]; exact hx⟩
    obtain ⟨n0, ⟨d0, p0⟩, r0⟩ := key 0 _ rfl
    obtain ⟨n1, ⟨d1, p1⟩, r1⟩ := key 1 _ rfl
    obtain ⟨n2, ⟨d2, p2⟩, r2⟩ := key 2 _ rfl
    obtain ⟨b, e2, _⟩ := DataW.trod_bool Try.underlying4 r2
    simp only [List.getD_cons_zero, List.getD_cons_succ] at r0 r1
    obtain ⟨a0, l0, c0, e0⟩ := shape_of Try.underlying33 r0
    obtain ⟨a1, l1, c1, e1⟩ := shape_of Try.underlying33 r1
    subst e0 e1
    obtain ⟨a0, l0, c0, f0, s0⟩ := open_bytes Try.underlying33 Try.underlying5 h8 ⟨_, _, _, rfl⟩ (show DataW.Trod enc Try.prog W 0 (fun _ => true) true 33 (.slice a0 l0 c0) d0 p0 from ⟨n0, r0⟩)
    obtain ⟨a1, l1, c1, f1, s1⟩ := open_bytes Try.underlying33 Try.underlying5 h8 ⟨_, _, _, rfl⟩ (show DataW.Trod enc Try.prog W 0 (fun _ => true) true 33 (.slice a1 l1 c1) d1 p1 from ⟨n1, r1⟩)
    simp only [List.getD_cons_zero, List.getD_cons_succ, List.cons.injEq, and_true] at e2
    exact ⟨((a0, l0, c0), (a1, l1, c1), b), by rw [f0, f1, e2]; rfl, s0, s1⟩
  rw [List.length_map, hsz] at hr
  rw [List.length_map] at hv
  exact ⟨a, rs, c, hv, hr, h2⟩
section
variable {O : Objs} {W : World} {m : Mu} {h : Hp O.X}
theorem Ini.eachE : ∀ {rs : List RowE} {m : Mu} {h : Hp O.X}, Ini O W m h → (∀ r ∈ rs, RowInE W r) →
    ∃ (m' : Mu) (h' : Hp O.X) (tri : List T3), Ini O W m' h' ∧ Ext m m' ∧ Keep NoB h h' ∧ VRs m' (tri.flatMap f3) (rs.map fE).flatten ∧ (∀ x ∈ tri.flatMap f3, x.one = true) ∧ tri.length = rs.length ∧ ∀ (i : Nat) (q : T3) r, tri[i]? = some q → rs[i]? = some r → EntV h' q (mkE r)
  | [], m, h, hi, _ => ⟨m, h, [], hi, Ext.refl _, Keep.refl _ _, vrs_nil, (fun _ q => by cases q), rfl, fun i x r q => by simp at q⟩
  | r :: rs, m, h, hi, hr => by
    obtain ⟨g1, g2⟩ := hr r (List.mem_cons_self ..)
    obtain ⟨m1, h1, x, i1, e1, k1, v1, r1, _⟩ := hi.bytes g1
    obtain ⟨m2, h2, y, i2, e2, k2, v2, r2, _⟩ := i1.bytes g2
    obtain ⟨m3, h3, tri, i3, e3, k3, v3, o3, l3, q3⟩ := Ini.eachE i2 (fun r' hr' => hr r' (List.mem_cons_of_mem _ hr'))
    refine ⟨m3, h3, (x, y, r.2.2) :: tri, i3, (e1.trans e2).trans e3, (k1.and k2).and k3, ?_, ?_, by simp [l3], fun i q s hy hs => ?_⟩
    · rw [List.flatMap_cons, List.map_cons, List.flatten_cons]
      exact vrs_cons ((v1.ext e2).ext e3) (vrs_cons (v2.ext e3) (vrs_cons vr_bool v3))
    · intro z hz
      rw [List.flatMap_cons] at hz
      rcases List.mem_append.1 hz with hz | hz
      · simp only [f3, List.mem_cons, List.not_mem_nil, or_false] at hz
        rcases hz with rfl | rfl | rfl
        · exact rs_one r1
        · exact rs_one r2
        · rfl
      · exact o3 z hz
    · cases i with
      | zero => simp at hy hs; subst hy hs; exact ⟨rfl, (r1.up k2).up k3, r2.up k3⟩
      | succ i => simp at hy hs; exact q3 i q s hy hs
end
structure EntssAt {X : Type} (h : Hp X) (x : AV) (ls : List (List EM)) : Prop where
  bats : Bats h x ls (fun _ => True)
  len : ls.length ≤ maxLen
  len2 : ∀ l ∈ ls, l.length ≤ maxLen
theorem EntssAt.up {X : Type} {h h' : Hp X} {x : AV} {ls : List (List EM)} (a : EntssAt h x ls) (k : Keep NoB h h') : EntssAt h' x ls := ⟨a.bats.up k, a.len, a.len2⟩
structure OpEntss (W : World) (v : Value) : Prop where
  out : ∀ {m : Mu} {h : Hp OD.X}, Ini OD W m h → ∃ (ls : List (List EM)) (m' : Mu) (h' : Hp OD.X) (x : AV), Ini OD W m' h' ∧ Ext m m' ∧ Keep NoB h h' ∧ VR m' x v ∧ EntssAt h' x ls
abbrev RowEE := Option Addr × List RowE × Nat
def rowEE (r : RowEE) : Value := .slice r.1 r.2.1.length r.2.2
def RowInEE (w : World) (r : RowEE) : Prop := Rd w 3 (rowEE r) r.2.1.length (r.2.1.map fE).flatten ∧ ∀ z ∈ r.2.1, RowInE w z
theorem open_entriess {H : Type} {enc : TypeId × Value → H} {W : World} {r : Reach} {b0 : Nat} {v : Value} {d : DataW H} {ps : List MemPlace} (hval : Value.okWide Try.prog W r b0 39 v) (h : DataW.Trod enc Try.prog W 0 (fun _ => true) true 39 v d ps) : OpEntss W v := by
  have hC : Try.prog.cellsOf 46 = 1 := by kernel_rfl
  obtain ⟨a, vs, c, rfl, hr, hx⟩ := open_cells Try.underlying39 hC (okWide_slice Try.underlying39 hval) h
  obtain ⟨rs, rfl, h2⟩ := list_of (f := rowEE) (q := RowInEE W) (xs := vs) fun u hu => by
    obtain ⟨fuel, ⟨d, ps⟩, hf⟩ := hx u hu
    obtain ⟨a0, len, cap, rfl⟩ := shape_of Try.underlying46 hf
    obtain ⟨a, l, c, hv, hr, hz⟩ := open_ents ⟨_, _, _, rfl⟩ (show DataW.Trod enc Try.prog W 0 (fun _ => true) true 46 (.slice a0 len cap) d ps from ⟨fuel, hf⟩)
    exact ⟨(a, l, c), hv, hr, hz⟩
  rw [List.length_map] at hr ⊢
  refine ⟨fun {m h} hi => ?_⟩
  obtain ⟨m', h', x, xs, i1, e1, k1, v1, r1, q1⟩ := hi.rows (f := rowEE) (Q := fun h x r => EntsF h x (r.2.1.map mkE) (fun _ => True)) (fun {h h' x r} q k => q.up k) hr (fun r hrr {m h} hi => by
    obtain ⟨g1, g2⟩ := h2 r hrr
    obtain ⟨m1, h1, tri, i1, e1, k1, v1, o1, l1, q1⟩ := Ini.eachE hi g2
    obtain ⟨m2, h2, x, i2, e2, k2, v2, r2, _⟩ := i1.slice (by decide) g1 v1 o1
    refine ⟨m2, h2, x, i2, e1.trans e2, k1.and k2, v2, rs_one r2, ⟨tri, by rw [List.length_map]; exact r2, by rw [List.length_map]; exact l1, fun i q e h1 h2 => ?_, fun _ _ => trivial, fun _ _ _ _ => trivial⟩⟩
    rw [List.getElem?_map] at h2
    obtain ⟨s, hs, rfl⟩ := Option.map_eq_some_iff.1 h2
    exact (q1 i q s h1 hs).up k2)
  refine ⟨rs.map fun r => r.2.1.map mkE, m', h', x, i1, e1, k1, v1, ⟨⟨xs, by rw [List.length_map]; exact r1, fun _ _ => trivial, fun i l hi => ?_⟩, by rw [List.length_map]; exact hr.2.1, fun l hl => ?_⟩⟩
  · rw [List.getElem?_map] at hi
    obtain ⟨s, hs, rfl⟩ := Option.map_eq_some_iff.1 hi
    have hlt := (List.getElem?_eq_some_iff.1 hs).1
    have hxl := r1.len
    exact ⟨xs[i]'(by omega), List.getElem?_eq_getElem (by omega), q1 i _ s (List.getElem?_eq_getElem (by omega)) hs⟩
  · obtain ⟨s, hs, rfl⟩ := List.mem_map.1 hl
    rw [List.length_map]
    exact (h2 s hs).1.2.1
end Am
end Go.Proofs.Ythgcdoahoechhaa
