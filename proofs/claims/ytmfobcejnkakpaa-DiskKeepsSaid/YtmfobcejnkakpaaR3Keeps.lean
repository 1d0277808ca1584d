/- DiskKeeps: for every input the law is true and each argument reads as it read; no condition. -/
import Derived.Test.YtmfobcejnkakpaaRows
import Derived.Test.YtmfobcejnkakpaaL3Keeps
namespace Go.Proofs.Ytmfobcejnkakpaa
open Go.ChangeShapes Go.WideShapes Go.ChangeAt Go.RowKit

theorem keeps_own : ownKnob Try.prog.godebug = none := by kernel_rfl
theorem keeps_laid : laidOutB Try.prog = true := by kernel_rfl
theorem keeps_cells : Try.prog.cellsOf 5 = 1 := by kernel_rfl
theorem keeps_rec : ∀ t ∈ Try.f4.params.toList, Try.prog.readableRec t = true ∧ t < Try.prog.types.size := by
  have h : Try.f4.params.toList.all (fun t => Try.prog.readableRec t && decide (t < Try.prog.types.size)) = true := by kernel_rfl
  intro t ht
  have := List.all_eq_true.1 h t ht
  simpa using this

set_option maxRecDepth 100000 in
theorem keeps_lifted (os : Os) (started : os.Started) (H : Type) (enc : TypeId × Value → H) :
    ReturnsInHanded {} Try.checked os 4 .any (Rows.diskKeepsSpec.pre6 enc Try.prog Try.f4 Rows.diskKeepsRow.domain false) (Rows.diskKeepsSpec.post enc Try.prog Try.f4 false true false false) := by
  refine returnsInHanded_of_change (C := Try.checked) keeps_own started (by kernel_rfl) Try.func4
    (ChangeSpec.witness6 (enc := enc) (C := Try.checked) false ⟨#[], #[.slice none 0 0, .slice none 0 0, .slice none 0 0, .int .i64 0], []⟩ 8 (by kernel_rfl) (by kernel_rfl) (by kernel_rfl) (by kernel_rfl)) ?_
  intro W base args ds gs before hval0 hW hcnd _
  have hval : ∀ (j : Nat) t v, Try.f4.params[j]? = some t → args[j]? = some v → Value.okWide Try.prog W .any base t v := hval0
  have hW' := hW
  obtain ⟨p, q, hA0, hV, rfl, hfz, hnd⟩ := hW
  have hA : DataW.TrodAll enc Try.prog W 0 (fun _ => true) true Try.f4.params.toList args.toList ds p := hA0
  rw [Try.params4] at hA hval
  obtain ⟨v0, v1, v2, v3, d0, d1, d2, d3, p0, p1, p2, p3, hargs, rfl, rfl, h0, h1, h2, h3⟩ := trodAll_four hA
  subst hargs
  obtain ⟨rfl, rfl⟩ := trodVars_none hV
  obtain ⟨aa, a, ca, rfl, ra⟩ := open_bytes Try.underlying22 Try.underlying5 keeps_cells (okWide_slice Try.underlying22 (hval 0 _ v0 rfl rfl)) h0
  obtain ⟨ab, b, cb, rfl, rb⟩ := open_bytes Try.underlying22 Try.underlying5 keeps_cells (okWide_slice Try.underlying22 (hval 1 _ v1 rfl rfl)) h1
  obtain ⟨ac, c, cc, rfl, rc⟩ := open_bytes Try.underlying22 Try.underlying5 keeps_cells (okWide_slice Try.underlying22 (hval 2 _ v2 rfl rfl)) h2
  obtain ⟨k, rfl, rfl, rfl, wk⟩ := open_int Try.underlying3 (hval 3 _ v3 rfl rfl) h3
  refine (Keeps.walk W aa ab ac ca cb cc a b c ra rb rc k (i64_of wk)).mono fun e W' ⟨he, hw⟩ => ?_
  exact ⟨_, he, law_post keeps_laid keeps_rec rfl rfl Try.underlying4 rfl hW' hw⟩

theorem DiskKeeps_holds : Rows.DiskKeepsSaid :=
  OpenClaim.holds_of_wide 4 Try.f4 rfl rfl rfl rfl rfl rfl rfl ⟨rfl, rfl, rfl, rfl, rfl⟩ rfl rfl rfl rfl rfl (by kernel_rfl) Try.func4 (by kernel_rfl)
    (of_decide_eq_true (by kernel_rfl)) (by unfold Func.isWrapper; first | (rw [if_pos (by decide +kernel)]; kernel_rfl) | (rw [if_neg (by decide +kernel)]; exact ⟨rfl, rfl⟩))
    (fun os started H enc _ => keeps_lifted os started H enc)
end Go.Proofs.Ytmfobcejnkakpaa
