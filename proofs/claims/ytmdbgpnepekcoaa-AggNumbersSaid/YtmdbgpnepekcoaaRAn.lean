/- AggNumbers: for every input the law is true and each argument reads as it read; no condition. -/
import Derived.Test.YtmdbgpnepekcoaaRows
import Derived.Test.YtmdbgpnepekcoaaC3c
import Derived.Test.YtmdbgpnepekcoaaRow
namespace Go.Proofs.Ytmdbgpnepekcoaa
set_option linter.unusedVariables false
set_option linter.unusedSimpArgs false
open Go.ChangeShapes Go.WideShapes Go.ChangeAt Go.RowKit

theorem aggNumbers_own : ownKnob Try.prog.godebug = none := by kernel_rfl
theorem aggNumbers_laid : laidOutB Try.prog = true := by kernel_rfl
theorem aggNumbers_rec : ∀ t ∈ Try.f3.params.toList, Try.prog.readableRec t = true ∧ t < Try.prog.types.size := by
  have h : Try.f3.params.toList.all (fun t => Try.prog.readableRec t && decide (t < Try.prog.types.size)) = true := by kernel_rfl
  intro t ht
  have := List.all_eq_true.1 h t ht
  simpa using this

set_option maxRecDepth 100000 in
theorem aggNumbers_lifted (os : Os) (started : os.Started) (H : Type) (enc : TypeId × Value → H) :
    ReturnsInHanded {} Try.checked os 3 .any (Rows.aggNumbersSpec.pre6 enc Try.prog Try.f3 Rows.aggNumbersRow.domain false) (Rows.aggNumbersSpec.post enc Try.prog Try.f3 false true false false) := by
  refine returnsInHanded_of_change (C := Try.checked) aggNumbers_own started (by kernel_rfl) Try.func3
    (ChangeSpec.witness6 (enc := enc) (C := Try.checked) false ⟨#[], #[], []⟩ 8 (by kernel_rfl) (by kernel_rfl) (by kernel_rfl) (by kernel_rfl)) ?_
  intro W base args ds gs before hval0 hW hcnd _
  have hval : ∀ (j : Nat) t v, Try.f3.params[j]? = some t → args[j]? = some v → Value.okWide Try.prog W .any base t v := hval0
  have hW' := hW
  obtain ⟨p, q, hA0, hV, rfl, hfz, hnd⟩ := hW
  have hA : DataW.TrodAll enc Try.prog W 0 (fun _ => true) true Try.f3.params.toList args.toList ds p := hA0
  rw [Try.params3] at hA hval
  obtain ⟨hargs, rfl, rfl⟩ := trodAll_nil hA
  obtain rfl : args = #[] := by simpa using hargs
  obtain ⟨rfl, rfl⟩ := trodVars_none hV
  refine (Am.C3.walk W ).mono fun e W' ⟨he, hw⟩ => ?_
  exact ⟨_, he, law_post aggNumbers_laid aggNumbers_rec rfl rfl Try.underlying4 rfl hW' hw⟩

theorem AggNumbers_holds : Rows.AggNumbersSaid :=
  OpenClaim.holds_of_wide 3 Try.f3 rfl rfl rfl rfl rfl rfl rfl ⟨rfl, rfl, rfl, rfl, rfl⟩ rfl rfl rfl rfl rfl (by kernel_rfl) Try.func3 (by kernel_rfl)
    (of_decide_eq_true (by kernel_rfl)) (by unfold Func.isWrapper; first | (rw [if_pos (by decide +kernel)]; kernel_rfl) | (rw [if_neg (by decide +kernel)]; exact ⟨rfl, rfl⟩))
    (fun os started H enc _ => aggNumbers_lifted os started H enc)
end Go.Proofs.Ytmdbgpnepekcoaa
