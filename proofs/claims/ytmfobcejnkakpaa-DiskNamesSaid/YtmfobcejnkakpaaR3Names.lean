/- DiskNames: for every input the law is true and each argument reads as it read; no condition. -/
import Derived.Test.YtmfobcejnkakpaaRows
import Derived.Test.YtmfobcejnkakpaaL3Names
namespace Go.Proofs.Ytmfobcejnkakpaa
open Go.ChangeShapes Go.WideShapes Go.ChangeAt Go.RowKit

theorem diskNames_own : ownKnob Try.prog.godebug = none := by kernel_rfl
theorem diskNames_laid : laidOutB Try.prog = true := by kernel_rfl
theorem diskNames_cells : Try.prog.cellsOf 5 = 1 := by kernel_rfl
theorem diskNames_cellsI : Try.prog.cellsOf 3 = 1 := by kernel_rfl
theorem diskNames_rec : ∀ t ∈ Try.f3.params.toList, Try.prog.readableRec t = true ∧ t < Try.prog.types.size := by
  have h : Try.f3.params.toList.all (fun t => Try.prog.readableRec t && decide (t < Try.prog.types.size)) = true := by kernel_rfl
  intro t ht
  have := List.all_eq_true.1 h t ht
  simpa using this

set_option maxRecDepth 100000 in
theorem diskNames_lifted (os : Os) (started : os.Started) (H : Type) (enc : TypeId × Value → H) :
    ReturnsInHanded {} Try.checked os 3 .any (Rows.diskNamesSpec.pre6 enc Try.prog Try.f3 Rows.diskNamesRow.domain false) (Rows.diskNamesSpec.post enc Try.prog Try.f3 false true false false) := by
  refine returnsInHanded_of_change (C := Try.checked) diskNames_own started (by kernel_rfl) Try.func3
    (ChangeSpec.witness6 (enc := enc) (C := Try.checked) false ⟨#[], #[.slice none 0 0, .slice none 0 0], []⟩ 8 (by kernel_rfl) (by kernel_rfl) (by kernel_rfl) (by kernel_rfl)) ?_
  intro W base args ds gs before hval0 hW hcnd _
  have hval : ∀ (j : Nat) t v, Try.f3.params[j]? = some t → args[j]? = some v → Value.okWide Try.prog W .any base t v := hval0
  have hW' := hW
  obtain ⟨p, q, hA0, hV, rfl, hfz, hnd⟩ := hW
  have hA : DataW.TrodAll enc Try.prog W 0 (fun _ => true) true Try.f3.params.toList args.toList ds p := hA0
  rw [Try.params3] at hA hval
  obtain ⟨v0, v1, d0, d1, p0, p1, hargs, rfl, rfl, h0, h1⟩ := trodAll_two hA
  subst hargs
  obtain ⟨rfl, rfl⟩ := trodVars_none hV
  obtain ⟨a0, b0, c0, rfl, r0⟩ := open_bytes Try.underlying22 Try.underlying5 diskNames_cells (okWide_slice Try.underlying22 (hval 0 _ v0 rfl rfl)) h0
  obtain ⟨a1, b1, c1, rfl, r1, z1⟩ := open_i64s Try.underlying23 Try.underlying3 diskNames_cellsI (okWide_slice Try.underlying23 (hval 1 _ v1 rfl rfl)) h1
  refine (Names.walk W a0 b0 c0 r0 a1 b1 c1 r1 z1).mono fun e W' ⟨he, hw⟩ => ?_
  exact ⟨_, he, law_post diskNames_laid diskNames_rec rfl rfl Try.underlying4 rfl hW' hw⟩

theorem DiskNames_holds : Rows.DiskNamesSaid :=
  OpenClaim.holds_of_wide 3 Try.f3 rfl rfl rfl rfl rfl rfl rfl ⟨rfl, rfl, rfl, rfl, rfl⟩ rfl rfl rfl rfl rfl (by kernel_rfl) Try.func3 (by kernel_rfl)
    (of_decide_eq_true (by kernel_rfl)) (by unfold Func.isWrapper; first | (rw [if_pos (by decide +kernel)]; kernel_rfl) | (rw [if_neg (by decide +kernel)]; exact ⟨rfl, rfl⟩))
    (fun os started H enc _ => diskNames_lifted os started H enc)
end Go.Proofs.Ytmfobcejnkakpaa
