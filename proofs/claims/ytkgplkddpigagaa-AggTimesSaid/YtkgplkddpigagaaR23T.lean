/- AggTimes: for every input the law is true and each argument reads as it read; no condition. -/
import Derived.Test.YtkgplkddpigagaaRows
import Derived.Test.YtkgplkddpigagaaTab23t
set_option linter.unusedVariables false
set_option linter.unusedSimpArgs false
namespace Go.Proofs.Ytkgplkddpigagaa
open Go.ChangeShapes Go.WideShapes Go.ChangeAt Go.RowKit
theorem aggTimes_own : ownKnob Try.prog.godebug = none := by kernel_rfl
theorem aggTimes_laid : laidOutB Try.prog = true := by kernel_rfl
theorem aggTimes_cells : Try.prog.cellsOf 5 = 1 := by kernel_rfl
theorem aggTimes_bytes : Try.prog.bytesOf 5 = 1 := by kernel_rfl
theorem aggTimes_cellsI : Try.prog.cellsOf 3 = 1 := by kernel_rfl
theorem aggTimes_rec : ∀ t ∈ Try.f5.params.toList, Try.prog.readableRec t = true ∧ t < Try.prog.types.size := by
  have h : Try.f5.params.toList.all (fun t => Try.prog.readableRec t && decide (t < Try.prog.types.size)) = true := by kernel_rfl
  intro t ht
  have := List.all_eq_true.1 h t ht
  simpa using this
set_option maxRecDepth 100000 in
theorem aggTimes_lifted (os : Os) (started : os.Started) (H : Type) (enc : TypeId × Value → H) :
    ReturnsInHanded {} Try.checked os 5 .any (Rows.aggTimesSpec.pre6 enc Try.prog Try.f5 Rows.aggTimesRow.domain false) (Rows.aggTimesSpec.post enc Try.prog Try.f5 false true false false) := by
  refine returnsInHanded_of_change (C := Try.checked) aggTimes_own started (by kernel_rfl) Try.func5
    (ChangeSpec.witness6 (enc := enc) (C := Try.checked) false ⟨#[], #[.slice none 0 0, .slice none 0 0], []⟩ 8 (by kernel_rfl) (by kernel_rfl) (by kernel_rfl) (by kernel_rfl)) ?_
  intro W base args ds gs before hval0 hW hcnd _
  have hval : ∀ (j : Nat) t v, Try.f5.params[j]? = some t → args[j]? = some v → Value.okWide Try.prog W .any base t v := hval0
  have hW' := hW
  obtain ⟨p, q, hA0, hV, rfl, hfz, hnd⟩ := hW
  have hA : DataW.TrodAll enc Try.prog W 0 (fun _ => true) true Try.f5.params.toList args.toList ds p := hA0
  rw [Try.params5] at hA hval
  obtain ⟨v0, l0, d0, ds0, p0, q0, g0, e0, f0, h0, r0⟩ := trodAll_cons hA
  obtain ⟨v1, l1, d1, ds1, p1, q1, g1, e1, f1, h1, r1⟩ := trodAll_cons r0
  obtain ⟨gz, ez, fz⟩ := trodAll_nil r1
  subst gz ez fz
  subst g1 e1 f1
  obtain rfl : args = #[v0, v1] := by cases args; simp_all
  subst e0 f0
  obtain ⟨rfl, rfl⟩ := trodVars_none hV
  have I0 := Am.ini0 Am.O0 W
  have O0 := Am.open_intss (hval 0 _ v0 rfl rfl) h0
  obtain ⟨b0, m0, hp0, x0, I1, X0, K0, V0, R0⟩ := O0.out I0
  have O1 := Am.open_intss (hval 1 _ v1 rfl rfl) h1
  obtain ⟨b1, m1, hp1, x1, I2, X1, K1, V1, R1⟩ := O1.out I1
  have R0 := R0.up K1
  obtain ⟨φ, sr⟩ := I2.sr
  refine (Am.law_run Am.E23t_ok sr (Am.vrs_cons (Am.VR.ext X1 _ _ V0) (Am.vrs_cons V1 Am.vrs_nil)) (Am.atimes_ok Am.E23t_plain Am.q23t rfl rfl rfl R0 R1)).mono fun e W' ⟨he, hw⟩ => ?_
  exact ⟨_, he, law_post aggTimes_laid aggTimes_rec rfl rfl Try.underlying4 rfl hW' hw⟩
theorem AggTimes_holds : Rows.AggTimesSaid :=
  OpenClaim.holds_of_wide 5 Try.f5 rfl rfl rfl rfl rfl rfl rfl ⟨rfl, rfl, rfl, rfl, rfl⟩ rfl rfl rfl rfl rfl (by kernel_rfl) Try.func5 (by kernel_rfl)
    (of_decide_eq_true (by kernel_rfl)) (by unfold Func.isWrapper; first | (rw [if_pos (by decide +kernel)]; kernel_rfl) | (rw [if_neg (by decide +kernel)]; exact ⟨rfl, rfl⟩))
    (fun os started H enc _ => aggTimes_lifted os started H enc)
end Go.Proofs.Ytkgplkddpigagaa
