/- slices.Clone of bytes. -/
import Derived.Test.YtmfobcejnkakpaaRows
import Derived.Test.YtmfobcejnkakpaaLaws
namespace Go.Proofs.Ytmfobcejnkakpaa
set_option linter.unusedVariables false
set_option linter.unusedSimpArgs false
open Go.RowKit
set_option maxRecDepth 100000

/-- what a call ends in that hands back a slice in new memory and turns nothing -/
def RetNew (w : World) (e : TypeId) (size n : Nat) (xs : List Value) (en : Ending) (w' : World) : Prop :=
  ∃ v' ob', en = .returned v' ∧ Own w' e size v' n xs ob' ∧ Below w.heap.size w w' ∧ ∀ g, ob' = some g → w.heap.size ≤ g

theorem infoU8' : (Try.prog.info? 5).map (fun i => (i.zero, i.size, i.bytes)) = some (some (.int .u8 0), 1, 1) := by kernel_rfl

set_option maxHeartbeats 400000 in
theorem clone_any {w : World} {vb : Value} {n : Nat} {xs : List Value} (h : Rd w 1 vb n xs) (h1 : ∀ u ∈ xs, u.oneCell' = true) (hn : n ≤ 70368744177664) :
    Calls Try.prog 72 #[vb] w (RetNew w 5 1 n xs) := by
  obtain ⟨hl, hbm, ba, bc, rfl, hbl, hbcm, hnone, _⟩ := id h
  unfold maxLen at hbm hbcm
  have H := Lib.hid h
  have H1 := Lib.hid h1
  cases ba with
  | none =>
    obtain ⟨rfl, rfl⟩ := hnone rfl
    have hx : xs = [] := List.eq_nil_of_length_eq_zero (by simpa using hl)
    subst hx
    clear hl h h1 hnone
    have hq := fun w => Lib.run_eql_slice_nil (P := Try.prog) w 22 5 none 0 0 0 0 Try.underlying22
    go_enter Try.func72, Try.ntmps72
    go_wp2
    go_ret
    exact ⟨_, _, rfl, Own.nil _ _ _, Below.refl _ _, fun g hg => by cases hg⟩
  | some a =>
    clear hl h h1 hnone
    have hq := fun w => Lib.run_eql_slice_nil (P := Try.prog) w 22 5 (some a) n bc 0 0 Try.underlying22
    have hnil : Hid (Own (w.alloc (.cells #[] 5)) 5 1 (.slice (some ⟨w.heap.size, 0, none⟩) 0 0) 0 [] (some w.heap.size)) := ⟨rfl, .inr ⟨w.heap.size, 0, #[], rfl, rfl, Blk.new _ _ _, Nat.le_refl _, by unfold maxLen; omega, by simp, rfl⟩⟩
    go_enter Try.func72, Try.ntmps72
    go_wp2_with (at_builtin; refine wpList_append rfl _ _ _ rfl 5 1 1 _ Try.underlying22 infoU8' rfl (by decide) 0 [] _ hnil.out n xs (H.out.alloc _) H1.out (by unfold maxLen; omega) (by omega) ?_; intro v' w2 ob' h2 h3 h4; have H2 := Lib.hid h2; have H3 := Lib.hid h3; have H4 := Lib.hid h4; clear h2 h3 h4)
    go_ret
    refine ⟨_, ob', rfl, by simpa using H2.out, ?_, fun g hg => ?_⟩
    · exact Upd.toBelow ((((Upd.refl NoBlock w).alloc _).trans H3.out (fun k hk => .inr (by cases hk; exact Nat.le_refl _))))
    · rcases H4.out with h | h
      · rw [h] at hg; cases hg; exact Nat.le_refl _
      · have := h g hg; simp at this; omega
end Go.Proofs.Ytmfobcejnkakpaa
