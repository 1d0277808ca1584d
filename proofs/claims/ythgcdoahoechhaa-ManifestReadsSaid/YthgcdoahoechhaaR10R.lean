/- ManifestReads: for every input the law is true and each argument reads as it read; no condition. -/
import Derived.Test.YthgcdoahoechhaaRows
import Derived.Test.YthgcdoahoechhaaTab10b
set_option linter.unusedVariables false
set_option linter.unusedSimpArgs false
namespace Go.Proofs.Ythgcdoahoechhaa
open Go.ChangeShapes Go.WideShapes Go.ChangeAt Go.RowKit
theorem manifestReads_own : ownKnob Try.prog.godebug = none := by kernel_rfl
theorem manifestReads_laid : laidOutB Try.prog = true := by kernel_rfl
theorem manifestReads_cells : Try.prog.cellsOf 5 = 1 := by kernel_rfl
theorem manifestReads_bytes : Try.prog.bytesOf 5 = 1 := by kernel_rfl
theorem manifestReads_cellsI : Try.prog.cellsOf 3 = 1 := by kernel_rfl
theorem manifestReads_rec : ∀ t ∈ Try.f9.params.toList, Try.prog.readableRec t = true ∧ t < Try.prog.types.size := by
  have h : Try.f9.params.toList.all (fun t => Try.prog.readableRec t && decide (t < Try.prog.types.size)) = true := by kernel_rfl
  intro t ht
  have := List.all_eq_true.1 h t ht
  simpa using this
set_option maxRecDepth 100000 in
theorem manifestReads_lifted (os : Os) (started : os.Started) (H : Type) (enc : TypeId × Value → H) :
    ReturnsInHanded {} Try.checked os 9 .any (Rows.manifestReadsSpec.pre6 enc Try.prog Try.f9 Rows.manifestReadsRow.domain false) (Rows.manifestReadsSpec.post enc Try.prog Try.f9 false true false false) := by
  refine returnsInHanded_of_change_sized (C := Try.checked) manifestReads_own started (by kernel_rfl) Try.func9
    (ChangeSpec.witness6 (enc := enc) (C := Try.checked) false ⟨#[], #[.slice none 0 0, .int .i64 0, .int .i64 0, .slice none 0 0, .int .i64 0, .int .u8 0], []⟩ 8 (by kernel_rfl) (by kernel_rfl) (by kernel_rfl) (by kernel_rfl)) ?_
  intro W base args ds gs before hval0 hW hcnd hsz0 _
  have hval : ∀ (j : Nat) t v, Try.f9.params[j]? = some t → args[j]? = some v → Value.okWide Try.prog W .any base t v := hval0
  have hW' := hW
  obtain ⟨p, q, hA0, hV, rfl, hfz, hnd⟩ := hW
  have hA : DataW.TrodAll enc Try.prog W 0 (fun _ => true) true Try.f9.params.toList args.toList ds p := hA0
  rw [Try.params9] at hA hval
  obtain ⟨v0, l0, d0, ds0, p0, q0, g0, e0, f0, h0, r0⟩ := trodAll_cons hA
  obtain ⟨v1, l1, d1, ds1, p1, q1, g1, e1, f1, h1, r1⟩ := trodAll_cons r0
  obtain ⟨v2, l2, d2, ds2, p2, q2, g2, e2, f2, h2, r2⟩ := trodAll_cons r1
  obtain ⟨v3, l3, d3, ds3, p3, q3, g3, e3, f3, h3, r3⟩ := trodAll_cons r2
  obtain ⟨v4, l4, d4, ds4, p4, q4, g4, e4, f4, h4, r4⟩ := trodAll_cons r3
  obtain ⟨v5, l5, d5, ds5, p5, q5, g5, e5, f5, h5, r5⟩ := trodAll_cons r4
  obtain ⟨gz, ez, fz⟩ := trodAll_nil r5
  subst gz ez fz
  subst g5 e5 f5
  subst g4 e4 f4
  subst g3 e3 f3
  subst g2 e2 f2
  subst g1 e1 f1
  obtain rfl : args = #[v0, v1, v2, v3, v4, v5] := by cases args; simp_all
  subst e0 f0
  obtain ⟨rfl, rfl⟩ := trodVars_none hV
  have I0 := Am.ini0 Am.OD W
  obtain ⟨a0, b0, c0, rfl, z0, y0⟩ := open_i64s Try.underlying65 Try.underlying3 manifestReads_cellsI (okWide_slice Try.underlying65 (hval 0 _ v0 rfl rfl)) h0
  have N0 : b0.length ≤ maxLen := z0.2.1
  obtain ⟨m0, hp0, x0, I1, X0, K0, V0, R0, L0⟩ := I0.ints z0
  obtain ⟨k1, rfl, rfl, rfl, w1⟩ := open_int Try.underlying3 (hval 1 _ v1 rfl rfl) h1
  obtain ⟨k2, rfl, rfl, rfl, w2⟩ := open_int Try.underlying3 (hval 2 _ v2 rfl rfl) h2
  obtain ⟨a3, b3, c3, rfl, z3⟩ := open_bytes Try.underlying33 Try.underlying5 manifestReads_cells (okWide_slice Try.underlying33 (hval 3 _ v3 rfl rfl)) h3
  have Z3 := Am.reach_len hsz0 (j := 3) (t := 33) (e := 5) rfl rfl Try.underlying33 manifestReads_cells manifestReads_bytes h3
  obtain ⟨m3, hp3, x3, I4, X3, K3, V3, R3, L3⟩ := I1.bytes z3
  obtain ⟨k4, rfl, rfl, rfl, w4⟩ := open_int Try.underlying3 (hval 4 _ v4 rfl rfl) h4
  obtain ⟨k5, rfl⟩ := Am.open_byte Try.underlying5 (hval 5 _ v5 rfl rfl) h5
  have R0 := R0.up K3
  obtain ⟨φ, sr⟩ := I4.sr
  refine (Am.law_run Am.E10b_ok sr (Am.vrs_cons (Am.VR.ext X3 _ _ V0) (Am.vrs_cons Am.vr_int (Am.vrs_cons Am.vr_int (Am.vrs_cons V3 (Am.vrs_cons Am.vr_int (Am.vrs_cons Am.vr_int Am.vrs_nil)))))) (Am.reads_ok Am.E10b_plain Am.v10b rfl R0 (fun x hx => y0 x hx) N0 (i64_of w1) (i64_of w2) R3 z3.2.1 Z3 (i64_of w4))).mono fun e W' ⟨he, hw⟩ => ?_
  exact ⟨_, he, law_post manifestReads_laid manifestReads_rec rfl rfl Try.underlying4 rfl hW' hw⟩
theorem ManifestReads_holds : Rows.ManifestReadsSaid :=
  OpenClaim.holds_of_wide 9 Try.f9 rfl rfl rfl rfl rfl rfl rfl ⟨rfl, rfl, rfl, rfl, rfl⟩ rfl rfl rfl rfl rfl (by kernel_rfl) Try.func9 (by kernel_rfl)
    (of_decide_eq_true (by kernel_rfl)) (by unfold Func.isWrapper; first | (rw [if_pos (by decide +kernel)]; kernel_rfl) | (rw [if_neg (by decide +kernel)]; exact ⟨rfl, rfl⟩))
    (fun os started H enc _ => manifestReads_lifted os started H enc)
end Go.Proofs.Ythgcdoahoechhaa
