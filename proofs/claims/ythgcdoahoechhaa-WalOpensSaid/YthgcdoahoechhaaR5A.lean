/- WalOpens: for every input the law is true and each argument reads as it read; no condition. -/
import Derived.Test.YthgcdoahoechhaaRows
import Derived.Test.YthgcdoahoechhaaTab5a
set_option linter.unusedVariables false
set_option linter.unusedSimpArgs false
namespace Go.Proofs.Ythgcdoahoechhaa
open Go.ChangeShapes Go.WideShapes Go.ChangeAt Go.RowKit
theorem walOpens_own : ownKnob Try.prog.godebug = none := by kernel_rfl
theorem walOpens_laid : laidOutB Try.prog = true := by kernel_rfl
theorem walOpens_cells : Try.prog.cellsOf 5 = 1 := by kernel_rfl
theorem walOpens_bytes : Try.prog.bytesOf 5 = 1 := by kernel_rfl
theorem walOpens_cellsI : Try.prog.cellsOf 3 = 1 := by kernel_rfl
theorem walOpens_rec : ∀ t ∈ Try.f5.params.toList, Try.prog.readableRec t = true ∧ t < Try.prog.types.size := by
  have h : Try.f5.params.toList.all (fun t => Try.prog.readableRec t && decide (t < Try.prog.types.size)) = true := by kernel_rfl
  intro t ht
  have := List.all_eq_true.1 h t ht
  simpa using this
set_option maxRecDepth 100000 in
theorem walOpens_lifted (os : Os) (started : os.Started) (H : Type) (enc : TypeId × Value → H) :
    ReturnsInHanded {} Try.checked os 5 .any (Rows.walOpensSpec.pre6 enc Try.prog Try.f5 Rows.walOpensRow.domain false) (Rows.walOpensSpec.post enc Try.prog Try.f5 false true false false) := by
  refine returnsInHanded_of_change (C := Try.checked) walOpens_own started (by kernel_rfl) Try.func5
    (ChangeSpec.witness6 (enc := enc) (C := Try.checked) false ⟨#[], #[.slice none 0 0, .slice none 0 0, .int .i64 0, .int .u8 0, .int .i64 0], []⟩ 8 (by kernel_rfl) (by kernel_rfl) (by kernel_rfl) (by kernel_rfl)) ?_
  intro W base args ds gs before hval0 hW hcnd _
  have hval : ∀ (j : Nat) t v, Try.f5.params[j]? = some t → args[j]? = some v → Value.okWide Try.prog W .any base t v := hval0
  have hW' := hW
  obtain ⟨p, q, hA0, hV, rfl, hfz, hnd⟩ := hW
  have hA : DataW.TrodAll enc Try.prog W 0 (fun _ => true) true Try.f5.params.toList args.toList ds p := hA0
  rw [Try.params5] at hA hval
  obtain ⟨v0, l0, d0, ds0, p0, q0, g0, e0, f0, h0, r0⟩ := trodAll_cons hA
  obtain ⟨v1, l1, d1, ds1, p1, q1, g1, e1, f1, h1, r1⟩ := trodAll_cons r0
  obtain ⟨v2, l2, d2, ds2, p2, q2, g2, e2, f2, h2, r2⟩ := trodAll_cons r1
  obtain ⟨v3, l3, d3, ds3, p3, q3, g3, e3, f3, h3, r3⟩ := trodAll_cons r2
  obtain ⟨v4, l4, d4, ds4, p4, q4, g4, e4, f4, h4, r4⟩ := trodAll_cons r3
  obtain ⟨gz, ez, fz⟩ := trodAll_nil r4
  subst gz ez fz
  subst g4 e4 f4
  subst g3 e3 f3
  subst g2 e2 f2
  subst g1 e1 f1
  obtain rfl : args = #[v0, v1, v2, v3, v4] := by cases args; simp_all
  subst e0 f0
  obtain ⟨rfl, rfl⟩ := trodVars_none hV
  have I0 := Am.ini0 Am.OD W
  have O0 := Am.open_entriess (hval 0 _ v0 rfl rfl) h0
  obtain ⟨b0, m0, hp0, x0, I1, X0, K0, V0, R0⟩ := O0.out I0
  obtain ⟨a1, b1, c1, rfl, z1⟩ := open_bytes Try.underlying33 Try.underlying5 walOpens_cells (okWide_slice Try.underlying33 (hval 1 _ v1 rfl rfl)) h1
  obtain ⟨m1, hp1, x1, I2, X1, K1, V1, R1, L1⟩ := I1.bytes z1
  obtain ⟨k2, rfl, rfl, rfl, w2⟩ := open_int Try.underlying3 (hval 2 _ v2 rfl rfl) h2
  obtain ⟨k3, rfl⟩ := Am.open_byte Try.underlying5 (hval 3 _ v3 rfl rfl) h3
  obtain ⟨k4, rfl, rfl, rfl, w4⟩ := open_int Try.underlying3 (hval 4 _ v4 rfl rfl) h4
  have R0 := R0.up K1
  obtain ⟨φ, sr⟩ := I2.sr
  refine (Am.law_run Am.EL5a_ok sr (Am.vrs_cons (Am.VR.ext X1 _ _ V0) (Am.vrs_cons V1 (Am.vrs_cons Am.vr_int (Am.vrs_cons Am.vr_int (Am.vrs_cons Am.vr_int Am.vrs_nil))))) (Am.wopens_ok Am.EL5a_plain Am.v5aO rfl rfl R0.bats R0.len R0.len2 R1 (i64_of w2) (i64_of w4))).mono fun e W' ⟨he, hw⟩ => ?_
  exact ⟨_, he, law_post walOpens_laid walOpens_rec rfl rfl Try.underlying4 rfl hW' hw⟩
theorem WalOpens_holds : Rows.WalOpensSaid :=
  OpenClaim.holds_of_wide 5 Try.f5 rfl rfl rfl rfl rfl rfl rfl ⟨rfl, rfl, rfl, rfl, rfl⟩ rfl rfl rfl rfl rfl (by kernel_rfl) Try.func5 (by kernel_rfl)
    (of_decide_eq_true (by kernel_rfl)) (by unfold Func.isWrapper; first | (rw [if_pos (by decide +kernel)]; kernel_rfl) | (rw [if_neg (by decide +kernel)]; exact ⟨rfl, rfl⟩))
    (fun os started H enc _ => walOpens_lifted os started H enc)
end Go.Proofs.Ythgcdoahoechhaa
