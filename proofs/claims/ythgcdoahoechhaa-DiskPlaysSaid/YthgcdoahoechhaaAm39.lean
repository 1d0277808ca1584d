/- The plain machine: the calls that a law is given, opened. -/
import Derived.Test.YthgcdoahoechhaaAm38
import Derived.Test.YthgcdoahoechhaaL3b
import Derived.Test.YthgcdoahoechhaaL3p
set_option linter.unusedVariables false
set_option linter.unusedSimpArgs false
namespace Go.Proofs.Ythgcdoahoechhaa
namespace Am
open Go.RowKit Go.ChangeShapes Go.WideShapes Go.ChangeAt Go.Deep
set_option maxRecDepth 10000
abbrev RowA := _root_.Go.Proofs.Ythgcdoahoechhaa.AskM
section
variable {O : Objs} {W : World} {m : Mu} {h : Hp O.X}
theorem Ini.eachA : ∀ {rs : List RowA} {m : Mu} {h : Hp O.X}, Ini O W m h → (∀ r ∈ rs, AskIn W r) →
    ∃ (m' : Mu) (h' : Hp O.X) (tri : List QA), Ini O W m' h' ∧ Ext m m' ∧ Keep NoB h h' ∧ VRs m' (tri.flatMap f6) (rs.map askCells).flatten ∧ (∀ x ∈ tri.flatMap f6, x.one = true) ∧ tri.length = rs.length ∧ ∀ q ∈ tri, RS h' 1 q.1 q.2.b.length (q.2.b.map ub) ∧ I64 q.2.n
  | [], m, h, hi, _ => ⟨m, h, [], hi, Ext.refl _, Keep.refl _ _, vrs_nil, (fun _ q => by cases q), rfl, fun q h => by cases h⟩
  | r :: rs, m, h, hi, hr => by
    have g1 := hr r (List.mem_cons_self ..)
    obtain ⟨m1, h1, x, i1, e1, k1, v1, r1, _⟩ := hi.bytes g1.b
    obtain ⟨m3, h3, tri, i3, e3, k3, v3, o3, l3, q3⟩ := Ini.eachA i1 (fun r' hr' => hr r' (List.mem_cons_of_mem _ hr'))
    refine ⟨m3, h3, (x, ⟨r.kind, r.f, r.g, r.n, r.b.2.1, r.s.data.toList⟩) :: tri, i3, e1.trans e3, k1.and k3, ?_, ?_, by simp [l3], fun q hq => ?_⟩
    · rw [List.flatMap_cons, List.map_cons, List.flatten_cons]
      exact vrs_cons vr_int (vrs_cons vr_int (vrs_cons vr_int (vrs_cons vr_int (vrs_cons (v1.ext e3) (vrs_cons vr_str v3)))))
    · intro z hz
      rw [List.flatMap_cons] at hz
      rcases List.mem_append.1 hz with hz | hz
      · simp only [f6, List.mem_cons, List.not_mem_nil, or_false] at hz
        rcases hz with rfl | rfl | rfl | rfl | rfl | rfl
        · rfl
        · rfl
        · rfl
        · rfl
        · exact rs_one r1
        · rfl
      · exact o3 z hz
    · rcases List.mem_cons.1 hq with rfl | hq
      · exact ⟨r1.up k3, ⟨g1.n.1, g1.n.2⟩⟩
      · exact q3 q hq
end
structure OpAsks (W : World) (v : Value) : Prop where
  out : ∀ {m : Mu} {h : Hp OD.X}, Ini OD W m h → ∃ (l : List QA) (m' : Mu) (h' : Hp OD.X) (x : AV), Ini OD W m' h' ∧ Ext m m' ∧ Keep NoB h h' ∧ VR m' x v ∧ AsksAt h' x l
theorem open_asks {H : Type} {enc : TypeId × Value → H} {W : World} {r : Reach} {b0 : Nat} {v : Value} {d : DataW H} {ps : List MemPlace} (hval : Value.okWide Try.prog W r b0 22 v) (h : DataW.Trod enc Try.prog W 0 (fun _ => true) true 22 v d ps) : OpAsks W v := by
  obtain ⟨a, qs, c, rfl, hr, h2⟩ := _root_.Go.Proofs.Ythgcdoahoechhaa.open_asks (okWide_slice Try.underlying22 hval) h
  refine ⟨fun {m h} hi => ?_⟩
  obtain ⟨m1, h1, tri, i1, e1, k1, v1, o1, l1, q1⟩ := Ini.eachA hi h2
  obtain ⟨m2, h2', x, i2, e2, k2, v2, r2, _⟩ := i1.slice (by decide) hr v1 o1
  exact ⟨tri, m2, h2', x, i2, e1.trans e2, k1.and k2, v2, ⟨by rw [l1]; exact r2, by rw [l1]; exact hr.2.1, fun q hq => ⟨(q1 q hq).1.up k2, (q1 q hq).2⟩⟩⟩
end Am
end Go.Proofs.Ythgcdoahoechhaa
