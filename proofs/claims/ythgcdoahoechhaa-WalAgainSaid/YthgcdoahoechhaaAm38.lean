/- The plain machine: a list of truths that a law is given, opened. -/
import Derived.Test.YthgcdoahoechhaaAm37
set_option linter.unusedVariables false
set_option linter.unusedSimpArgs false
namespace Go.Proofs.Ythgcdoahoechhaa
namespace Am
open Go.RowKit Go.ChangeShapes Go.WideShapes Go.ChangeAt Go.Deep
set_option maxRecDepth 10000
structure BoolsAt {X : Type} (h : Hp X) (x : AV) (l : List Bool) : Prop where
  rs : RS h 1 x l.length (l.map AV.bool)
  len : l.length ≤ maxLen
theorem BoolsAt.up {X : Type} {h h' : Hp X} {x : AV} {l : List Bool} (a : BoolsAt h x l) (k : Keep NoB h h') : BoolsAt h' x l := ⟨a.rs.up k, a.len⟩
structure OpBools (W : World) (v : Value) : Prop where
  out : ∀ {m : Mu} {h : Hp OD.X}, Ini OD W m h → ∃ (l : List Bool) (m' : Mu) (h' : Hp OD.X) (x : AV), Ini OD W m' h' ∧ Ext m m' ∧ Keep NoB h h' ∧ VR m' x v ∧ BoolsAt h' x l
theorem open_bools {H : Type} {enc : TypeId × Value → H} {W : World} {r : Reach} {b0 : Nat} {v : Value} {d : DataW H} {ps : List MemPlace} (hval : Value.okWide Try.prog W r b0 59 v) (h : DataW.Trod enc Try.prog W 0 (fun _ => true) true 59 v d ps) : OpBools W v := by
  have hC : Try.prog.cellsOf 4 = 1 := by kernel_rfl
  obtain ⟨a, vs, c, rfl, hr, hx⟩ := open_cells Try.underlying59 hC (okWide_slice Try.underlying59 hval) h
  obtain ⟨bs, rfl, _⟩ := list_of (f := Value.bool) (q := fun _ => True) (xs := vs) fun u hu => by
    obtain ⟨fuel, ⟨d, ps⟩, hf⟩ := hx u hu
    obtain ⟨b, e, _⟩ := DataW.trod_bool Try.underlying4 hf
    simp only [List.cons.injEq, and_true] at e
    exact ⟨b, e, trivial⟩
  rw [List.length_map] at hr ⊢
  refine ⟨fun {m h} hi => ?_⟩
  obtain ⟨m', h', x, i1, e1, k1, v1, r1, _⟩ := hi.slice (l := bs.map AV.bool) Nat.zero_lt_one hr (vrs_map fun x _ => by simp [VR]) (fun x hx => by obtain ⟨_, _, rfl⟩ := List.mem_map.1 hx; rfl)
  exact ⟨bs, m', h', x, i1, e1, k1, v1, r1, hr.2.1⟩
end Am
end Go.Proofs.Ythgcdoahoechhaa
