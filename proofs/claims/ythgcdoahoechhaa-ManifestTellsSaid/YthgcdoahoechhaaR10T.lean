/- ManifestTells: for every input the law is true and each argument reads as it read; no condition. -/
import Derived.Test.YthgcdoahoechhaaRows
import Derived.Test.YthgcdoahoechhaaL10T
namespace Go.Proofs.Ythgcdoahoechhaa
set_option linter.unusedVariables false
set_option linter.unusedSimpArgs false
open Go.ChangeShapes Go.WideShapes Go.ChangeAt Go.RowKit

theorem manifestTells_own : ownKnob Try.prog.godebug = none := by kernel_rfl
theorem manifestTells_laid : laidOutB Try.prog = true := by kernel_rfl
theorem manifestTells_cells : Try.prog.cellsOf 5 = 1 := by kernel_rfl
theorem manifestTells_cellsI : Try.prog.cellsOf 3 = 1 := by kernel_rfl
theorem manifestTells_rec : ∀ t ∈ Try.f8.params.toList, Try.prog.readableRec t = true ∧ t < Try.prog.types.size := by
  have h : Try.f8.params.toList.all (fun t => Try.prog.readableRec t && decide (t < Try.prog.types.size)) = true := by kernel_rfl
  intro t ht
  have := List.all_eq_true.1 h t ht
  simpa using this

set_option maxRecDepth 100000 in
theorem manifestTells_lifted (os : Os) (started : os.Started) (H : Type) (enc : TypeId × Value → H) :
    ReturnsInHanded {} Try.checked os 8 .any (Rows.manifestTellsSpec.pre6 enc Try.prog Try.f8 Rows.manifestTellsRow.domain false) (Rows.manifestTellsSpec.post enc Try.prog Try.f8 false true false false) := by
  refine returnsInHanded_of_change (C := Try.checked) manifestTells_own started (by kernel_rfl) Try.func8
    (ChangeSpec.witness6 (enc := enc) (C := Try.checked) false ⟨#[], #[.slice none 0 0, .int .i64 0, .int .i64 0, .agg #[.slice none 0 0, .int .i64 0, .int .i64 0], .slice none 0 0, .int .i64 0, .int .u8 0, .int .i64 0], []⟩ 8 (by kernel_rfl) (by kernel_rfl) (by kernel_rfl) (by kernel_rfl)) ?_
  intro W base args ds gs before hval0 hW hcnd _
  have hval : ∀ (j : Nat) t v, Try.f8.params[j]? = some t → args[j]? = some v → Value.okWide Try.prog W .any base t v := hval0
  have hW' := hW
  obtain ⟨p, q, hA0, hV, rfl, hfz, hnd⟩ := hW
  have hA : DataW.TrodAll enc Try.prog W 0 (fun _ => true) true Try.f8.params.toList args.toList ds p := hA0
  rw [Try.params8] at hA hval
  obtain ⟨v0, l0, d0, ds0, p0, q0, g0, e0, f0, h0, r0⟩ := trodAll_cons hA
  obtain ⟨v1, l1, d1, ds1, p1, q1, g1, e1, f1, h1, r1⟩ := trodAll_cons r0
  obtain ⟨v2, l2, d2, ds2, p2, q2, g2, e2, f2, h2, r2⟩ := trodAll_cons r1
  obtain ⟨v3, l3, d3, ds3, p3, q3, g3, e3, f3, h3, r3⟩ := trodAll_cons r2
  obtain ⟨v4, l4, d4, ds4, p4, q4, g4, e4, f4, h4, r4⟩ := trodAll_cons r3
  obtain ⟨v5, l5, d5, ds5, p5, q5, g5, e5, f5, h5, r5⟩ := trodAll_cons r4
  obtain ⟨v6, l6, d6, ds6, p6, q6, g6, e6, f6, h6, r6⟩ := trodAll_cons r5
  obtain ⟨v7, l7, d7, ds7, p7, q7, g7, e7, f7, h7, r7⟩ := trodAll_cons r6
  obtain ⟨gz, ez, fz⟩ := trodAll_nil r7
  subst gz ez fz
  subst g7 e7 f7
  subst g6 e6 f6
  subst g5 e5 f5
  subst g4 e4 f4
  subst g3 e3 f3
  subst g2 e2 f2
  subst g1 e1 f1
  obtain rfl : args = #[v0, v1, v2, v3, v4, v5, v6, v7] := by cases args; simp_all
  subst e0 f0
  obtain ⟨rfl, rfl⟩ := trodVars_none hV
  have I0 := Am.ini0 Am.OD W
  obtain ⟨a0, b0, c0, rfl, z0, y0⟩ := open_i64s Try.underlying65 Try.underlying3 manifestTells_cellsI (okWide_slice Try.underlying65 (hval 0 _ v0 rfl rfl)) h0
  have N0 : b0.length ≤ maxLen := z0.2.1
  obtain ⟨m0, hp0, x0, I1, X0, K0, V0, R0, L0⟩ := I0.ints z0
  obtain ⟨k1, rfl, rfl, rfl, w1⟩ := open_int Try.underlying3 (hval 1 _ v1 rfl rfl) h1
  obtain ⟨k2, rfl, rfl, rfl, w2⟩ := open_int Try.underlying3 (hval 2 _ v2 rfl rfl) h2
  obtain ⟨a3, b3, c3, kw3, kn3, rfl, z3⟩ := Am.open_list (hval 3 _ v3 rfl rfl) h3
  obtain ⟨m3, hp3, x3, I4, X3, K3, V3, R3, L3⟩ := I1.ints z3
  obtain ⟨a4, b4, c4, rfl, z4⟩ := open_bytes Try.underlying33 Try.underlying5 manifestTells_cells (okWide_slice Try.underlying33 (hval 4 _ v4 rfl rfl)) h4
  obtain ⟨m4, hp4, x4, I5, X4, K4, V4, R4, L4⟩ := I4.bytes z4
  obtain ⟨k5, rfl, rfl, rfl, w5⟩ := open_int Try.underlying3 (hval 5 _ v5 rfl rfl) h5
  obtain ⟨k6, rfl⟩ := Am.open_byte Try.underlying5 (hval 6 _ v6 rfl rfl) h6
  obtain ⟨k7, rfl, rfl, rfl, w7⟩ := open_int Try.underlying3 (hval 7 _ v7 rfl rfl) h7
  have R0 := R0.up K3
  have R0 := R0.up K4
  have R3 := R3.up K4
  obtain ⟨φ, sr⟩ := I5.sr
  refine (Am.law_run Am.E10_ok sr (Am.vrs_cons (Am.VR.ext X4 _ _ (Am.VR.ext X3 _ _ V0)) (Am.vrs_cons Am.vr_int (Am.vrs_cons Am.vr_int (Am.vrs_cons (Am.VR.ext X4 _ _ (Am.vr_agg (Am.vrs_cons V3 (Am.vrs_cons Am.vr_int (Am.vrs_cons Am.vr_int Am.vrs_nil))))) (Am.vrs_cons V4 (Am.vrs_cons Am.vr_int (Am.vrs_cons Am.vr_int (Am.vrs_cons Am.vr_int Am.vrs_nil)))))))) (Am.tells_ok Am.E10_plain Am.v10 rfl R0 (fun x hx => y0 x hx) N0 (i64_of w1) (i64_of w2) R3 R4 (i64_of w5) (i64_of w7))).mono fun e W' ⟨he, hw⟩ => ?_
  exact ⟨_, he, law_post manifestTells_laid manifestTells_rec rfl rfl Try.underlying4 rfl hW' hw⟩

theorem ManifestTells_holds : Rows.ManifestTellsSaid :=
  OpenClaim.holds_of_wide 8 Try.f8 rfl rfl rfl rfl rfl rfl rfl ⟨rfl, rfl, rfl, rfl, rfl⟩ rfl rfl rfl rfl rfl (by kernel_rfl) Try.func8 (by kernel_rfl)
    (of_decide_eq_true (by kernel_rfl)) (by unfold Func.isWrapper; first | (rw [if_pos (by decide +kernel)]; kernel_rfl) | (rw [if_neg (by decide +kernel)]; exact ⟨rfl, rfl⟩))
    (fun os started H enc _ => manifestTells_lifted os started H enc)
end Go.Proofs.Ythgcdoahoechhaa
