/- DiskLimits: for every input the law is true and each argument reads as it read; no condition. -/
import Derived.Test.YtmfobcejnkakpaaRows
import Derived.Test.YtmfobcejnkakpaaL3Limits
namespace Go.Proofs.Ytmfobcejnkakpaa
set_option linter.unusedVariables false
set_option linter.unusedSimpArgs false
open Go.ChangeShapes Go.WideShapes Go.ChangeAt Go.RowKit

theorem diskLimits_own : ownKnob Try.prog.godebug = none := by kernel_rfl
theorem diskLimits_laid : laidOutB Try.prog = true := by kernel_rfl
theorem diskLimits_cells : Try.prog.cellsOf 5 = 1 := by kernel_rfl
theorem diskLimits_cellsB : Try.prog.cellsOf 22 = 1 := by kernel_rfl
theorem diskLimits_rec : ∀ t ∈ Try.f5.params.toList, Try.prog.readableRec t = true ∧ t < Try.prog.types.size := by
  have h : Try.f5.params.toList.all (fun t => Try.prog.readableRec t && decide (t < Try.prog.types.size)) = true := by kernel_rfl
  intro t ht
  have := List.all_eq_true.1 h t ht
  simpa using this

set_option maxRecDepth 100000 in
theorem diskLimits_lifted (os : Os) (started : os.Started) (H : Type) (enc : TypeId × Value → H) :
    ReturnsInHanded {} Try.checked os 5 .any (Rows.diskLimitsSpec.pre6 enc Try.prog Try.f5 Rows.diskLimitsRow.domain false) (Rows.diskLimitsSpec.post enc Try.prog Try.f5 false true false false) := by
  refine returnsInHanded_of_change (C := Try.checked) diskLimits_own started (by kernel_rfl) Try.func5
    (ChangeSpec.witness6 (enc := enc) (C := Try.checked) false ⟨#[], #[.int .i64 0, .slice none 0 0], []⟩ 8 (by kernel_rfl) (by kernel_rfl) (by kernel_rfl) (by kernel_rfl)) ?_
  intro W base args ds gs before hval0 hW hcnd _
  have hval : ∀ (j : Nat) t v, Try.f5.params[j]? = some t → args[j]? = some v → Value.okWide Try.prog W .any base t v := hval0
  have hW' := hW
  obtain ⟨p, q, hA0, hV, rfl, hfz, hnd⟩ := hW
  have hA : DataW.TrodAll enc Try.prog W 0 (fun _ => true) true Try.f5.params.toList args.toList ds p := hA0
  rw [Try.params5] at hA hval
  obtain ⟨v0, v1, d0, d1, p0, p1, hargs, rfl, rfl, h0, h1⟩ := trodAll_two hA
  subst hargs
  obtain ⟨rfl, rfl⟩ := trodVars_none hV
  obtain ⟨k0, rfl, rfl, rfl, w0⟩ := open_int Try.underlying3 (hval 0 _ v0 rfl rfl) h0
  obtain ⟨a1, b1, c1, rfl, r1, z1⟩ := open_rows Try.underlying39 Try.underlying22 Try.underlying5 diskLimits_cellsB diskLimits_cells (okWide_slice Try.underlying39 (hval 1 _ v1 rfl rfl)) h1
  refine (Limits.walk W k0 (i64_of w0) a1 b1 c1 r1 z1).mono fun e W' ⟨he, hw⟩ => ?_
  exact ⟨_, he, law_post diskLimits_laid diskLimits_rec rfl rfl Try.underlying4 rfl hW' hw⟩

theorem DiskLimits_holds : Rows.DiskLimitsSaid :=
  OpenClaim.holds_of_wide 5 Try.f5 rfl rfl rfl rfl rfl rfl rfl ⟨rfl, rfl, rfl, rfl, rfl⟩ rfl rfl rfl rfl rfl (by kernel_rfl) Try.func5 (by kernel_rfl)
    (of_decide_eq_true (by kernel_rfl)) (by unfold Func.isWrapper; first | (rw [if_pos (by decide +kernel)]; kernel_rfl) | (rw [if_neg (by decide +kernel)]; exact ⟨rfl, rfl⟩))
    (fun os started H enc _ => diskLimits_lifted os started H enc)
end Go.Proofs.Ytmfobcejnkakpaa
