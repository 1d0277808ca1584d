/- AggParts: for every input the law is true and each argument reads as it read; no condition. -/
import Derived.Test.YtkgplkddpigagaaRows
import Derived.Test.YtkgplkddpigagaaTab23p
set_option linter.unusedVariables false
set_option linter.unusedSimpArgs false
namespace Go.Proofs.Ytkgplkddpigagaa
open Go.ChangeShapes Go.WideShapes Go.ChangeAt Go.RowKit
theorem aggParts_own : ownKnob Try.prog.godebug = none := by kernel_rfl
theorem aggParts_laid : laidOutB Try.prog = true := by kernel_rfl
theorem aggParts_cells : Try.prog.cellsOf 5 = 1 := by kernel_rfl
theorem aggParts_bytes : Try.prog.bytesOf 5 = 1 := by kernel_rfl
theorem aggParts_cellsI : Try.prog.cellsOf 3 = 1 := by kernel_rfl
theorem aggParts_rec : ∀ t ∈ Try.f6.params.toList, Try.prog.readableRec t = true ∧ t < Try.prog.types.size := by
  have h : Try.f6.params.toList.all (fun t => Try.prog.readableRec t && decide (t < Try.prog.types.size)) = true := by kernel_rfl
  intro t ht
  have := List.all_eq_true.1 h t ht
  simpa using this
set_option maxRecDepth 100000 in
theorem aggParts_lifted (os : Os) (started : os.Started) (H : Type) (enc : TypeId × Value → H) :
    ReturnsInHanded {} Try.checked os 6 .any (Rows.aggPartsSpec.pre6 enc Try.prog Try.f6 Rows.aggPartsRow.domain false) (Rows.aggPartsSpec.post enc Try.prog Try.f6 false true false false) := by
  refine returnsInHanded_of_change (C := Try.checked) aggParts_own started (by kernel_rfl) Try.func6
    (ChangeSpec.witness6 (enc := enc) (C := Try.checked) false ⟨#[], #[.slice none 0 0, .slice none 0 0, .int .i64 0], []⟩ 8 (by kernel_rfl) (by kernel_rfl) (by kernel_rfl) (by kernel_rfl)) ?_
  intro W base args ds gs before hval0 hW hcnd _
  have hval : ∀ (j : Nat) t v, Try.f6.params[j]? = some t → args[j]? = some v → Value.okWide Try.prog W .any base t v := hval0
  have hW' := hW
  obtain ⟨p, q, hA0, hV, rfl, hfz, hnd⟩ := hW
  have hA : DataW.TrodAll enc Try.prog W 0 (fun _ => true) true Try.f6.params.toList args.toList ds p := hA0
  rw [Try.params6] at hA hval
  obtain ⟨v0, l0, d0, ds0, p0, q0, g0, e0, f0, h0, r0⟩ := trodAll_cons hA
  obtain ⟨v1, l1, d1, ds1, p1, q1, g1, e1, f1, h1, r1⟩ := trodAll_cons r0
  obtain ⟨v2, l2, d2, ds2, p2, q2, g2, e2, f2, h2, r2⟩ := trodAll_cons r1
  obtain ⟨gz, ez, fz⟩ := trodAll_nil r2
  subst gz ez fz
  subst g2 e2 f2
  subst g1 e1 f1
  obtain rfl : args = #[v0, v1, v2] := by cases args; simp_all
  subst e0 f0
  obtain ⟨rfl, rfl⟩ := trodVars_none hV
  have I0 := Am.ini0 Am.O0 W
  obtain ⟨a0, b0, c0, rfl, z0, y0⟩ := open_i64s Try.underlying30 Try.underlying3 aggParts_cellsI (okWide_slice Try.underlying30 (hval 0 _ v0 rfl rfl)) h0
  have N0 : b0.length ≤ maxLen := z0.2.1
  obtain ⟨m0, hp0, x0, I1, X0, K0, V0, R0, L0⟩ := I0.ints z0
  have O1 := Am.open_intss (hval 1 _ v1 rfl rfl) h1
  obtain ⟨b1, m1, hp1, x1, I2, X1, K1, V1, R1⟩ := O1.out I1
  obtain ⟨k2, rfl, rfl, rfl, w2⟩ := open_int Try.underlying3 (hval 2 _ v2 rfl rfl) h2
  have R0 := R0.up K1
  obtain ⟨φ, sr⟩ := I2.sr
  refine (Am.law_run Am.E23p_ok sr (Am.vrs_cons (Am.VR.ext X1 _ _ V0) (Am.vrs_cons V1 (Am.vrs_cons Am.vr_int Am.vrs_nil))) (Am.aparts_ok Am.E23p_plain Am.q23p rfl ⟨R0, N0, fun x hx => y0 x hx⟩ R1 (i64_of w2))).mono fun e W' ⟨he, hw⟩ => ?_
  exact ⟨_, he, law_post aggParts_laid aggParts_rec rfl rfl Try.underlying4 rfl hW' hw⟩
theorem AggParts_holds : Rows.AggPartsSaid :=
  OpenClaim.holds_of_wide 6 Try.f6 rfl rfl rfl rfl rfl rfl rfl ⟨rfl, rfl, rfl, rfl, rfl⟩ rfl rfl rfl rfl rfl (by kernel_rfl) Try.func6 (by kernel_rfl)
    (of_decide_eq_true (by kernel_rfl)) (by unfold Func.isWrapper; first | (rw [if_pos (by decide +kernel)]; kernel_rfl) | (rw [if_neg (by decide +kernel)]; exact ⟨rfl, rfl⟩))
    (fun os started H enc _ => aggParts_lifted os started H enc)
end Go.Proofs.Ytkgplkddpigagaa
