/- AggTells: for every input the law is true and each argument reads as it read; no condition. -/
import Derived.Test.YtkgplkddpigagaaRows
import Derived.Test.YtkgplkddpigagaaTab23l
set_option linter.unusedVariables false
set_option linter.unusedSimpArgs false
namespace Go.Proofs.Ytkgplkddpigagaa
open Go.ChangeShapes Go.WideShapes Go.ChangeAt Go.RowKit
theorem aggTells_own : ownKnob Try.prog.godebug = none := by kernel_rfl
theorem aggTells_laid : laidOutB Try.prog = true := by kernel_rfl
theorem aggTells_cells : Try.prog.cellsOf 5 = 1 := by kernel_rfl
theorem aggTells_bytes : Try.prog.bytesOf 5 = 1 := by kernel_rfl
theorem aggTells_cellsI : Try.prog.cellsOf 3 = 1 := by kernel_rfl
theorem aggTells_rec : ∀ t ∈ Try.f3.params.toList, Try.prog.readableRec t = true ∧ t < Try.prog.types.size := by
  have h : Try.f3.params.toList.all (fun t => Try.prog.readableRec t && decide (t < Try.prog.types.size)) = true := by kernel_rfl
  intro t ht
  have := List.all_eq_true.1 h t ht
  simpa using this
set_option maxRecDepth 100000 in
theorem aggTells_lifted (os : Os) (started : os.Started) (H : Type) (enc : TypeId × Value → H) :
    ReturnsInHanded {} Try.checked os 3 .any (Rows.aggTellsSpec.pre6 enc Try.prog Try.f3 Rows.aggTellsRow.domain false) (Rows.aggTellsSpec.post enc Try.prog Try.f3 false true false false) := by
  refine returnsInHanded_of_change (C := Try.checked) aggTells_own started (by kernel_rfl) Try.func3
    (ChangeSpec.witness6 (enc := enc) (C := Try.checked) false ⟨#[], #[.int .i64 0, .slice none 0 0, .slice none 0 0, .slice none 0 0], []⟩ 8 (by kernel_rfl) (by kernel_rfl) (by kernel_rfl) (by kernel_rfl)) ?_
  intro W base args ds gs before hval0 hW hcnd _
  have hval : ∀ (j : Nat) t v, Try.f3.params[j]? = some t → args[j]? = some v → Value.okWide Try.prog W .any base t v := hval0
  have hW' := hW
  obtain ⟨p, q, hA0, hV, rfl, hfz, hnd⟩ := hW
  have hA : DataW.TrodAll enc Try.prog W 0 (fun _ => true) true Try.f3.params.toList args.toList ds p := hA0
  rw [Try.params3] at hA hval
  obtain ⟨v0, l0, d0, ds0, p0, q0, g0, e0, f0, h0, r0⟩ := trodAll_cons hA
  obtain ⟨v1, l1, d1, ds1, p1, q1, g1, e1, f1, h1, r1⟩ := trodAll_cons r0
  obtain ⟨v2, l2, d2, ds2, p2, q2, g2, e2, f2, h2, r2⟩ := trodAll_cons r1
  obtain ⟨v3, l3, d3, ds3, p3, q3, g3, e3, f3, h3, r3⟩ := trodAll_cons r2
  obtain ⟨gz, ez, fz⟩ := trodAll_nil r3
  subst gz ez fz
  subst g3 e3 f3
  subst g2 e2 f2
  subst g1 e1 f1
  obtain rfl : args = #[v0, v1, v2, v3] := by cases args; simp_all
  subst e0 f0
  obtain ⟨rfl, rfl⟩ := trodVars_none hV
  have I0 := Am.ini0 Am.O0 W
  obtain ⟨k0, rfl, rfl, rfl, w0⟩ := open_int Try.underlying3 (hval 0 _ v0 rfl rfl) h0
  have O1 := Am.open_intss (hval 1 _ v1 rfl rfl) h1
  obtain ⟨b1, m1, hp1, x1, I2, X1, K1, V1, R1⟩ := O1.out I0
  have O2 := Am.open_intss (hval 2 _ v2 rfl rfl) h2
  obtain ⟨b2, m2, hp2, x2, I3, X2, K2, V2, R2⟩ := O2.out I2
  have O3 := Am.open_smps (hval 3 _ v3 rfl rfl) h3
  obtain ⟨b3, m3, hp3, x3, I4, X3, K3, V3, R3⟩ := O3.out I3
  have R1 := R1.up K2
  have R1 := R1.up K3
  have R2 := R2.up K3
  obtain ⟨φ, sr⟩ := I4.sr
  refine (Am.law_run Am.E23l_ok sr (Am.vrs_cons Am.vr_int (Am.vrs_cons (Am.VR.ext X3 _ _ (Am.VR.ext X2 _ _ V1)) (Am.vrs_cons (Am.VR.ext X3 _ _ V2) (Am.vrs_cons V3 Am.vrs_nil)))) (Am.atells_ok Am.E23l_plain Am.qf23l rfl (i64_of w0) R1 R2 R3)).mono fun e W' ⟨he, hw⟩ => ?_
  exact ⟨_, he, law_post aggTells_laid aggTells_rec rfl rfl Try.underlying4 rfl hW' hw⟩
theorem AggTells_holds : Rows.AggTellsSaid :=
  OpenClaim.holds_of_wide 3 Try.f3 rfl rfl rfl rfl rfl rfl rfl ⟨rfl, rfl, rfl, rfl, rfl⟩ rfl rfl rfl rfl rfl (by kernel_rfl) Try.func3 (by kernel_rfl)
    (of_decide_eq_true (by kernel_rfl)) (by unfold Func.isWrapper; first | (rw [if_pos (by decide +kernel)]; kernel_rfl) | (rw [if_neg (by decide +kernel)]; exact ⟨rfl, rfl⟩))
    (fun os started H enc _ => aggTells_lifted os started H enc)
end Go.Proofs.Ytkgplkddpigagaa
