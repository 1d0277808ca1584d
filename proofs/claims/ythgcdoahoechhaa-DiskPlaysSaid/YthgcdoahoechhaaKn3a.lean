/- known: its functions, brought; the table. -/
import Derived.Test.YthgcdoahoechhaaMH
import Derived.Test.YthgcdoahoechhaaRows
import Derived.KernelRfl
set_option linter.unusedVariables false
set_option linter.unusedSimpArgs false
namespace Go.Proofs.Ythgcdoahoechhaa
namespace Am
namespace Kn3
open Go.RowKit
set_option maxRecDepth 1000000
def c : BC := (.seq (.reg [.mk none (.slot 0) (.mov (.mv (.const (.bool false))))]) (.seq (.reg [.mk none (.env 6) (.call 13 [(.const (.int .i64 (Int.ofNat 100)))]), .mk none (.env 5) (.mov (.mv (.env 6))), .mk none (.env 7) (.mov (.ext 0 (.env 5))), .mk none (.env 8) (.mov (.ext 1 (.env 5))), .mk none (.slot 1) (.mov (.mv (.env 7))), .mk none (.slot 2) (.mov (.mv (.env 8)))]) (.seq (.seq (.reg [.mk none (.env 9) (.mov (.mv (.slot 1))), .mk none (.env 10) (.mov (.bin .eql .ptr (.env 9) (.const .nilp))), .mk none (.env 11) (.mov (.mv (.env 10))), .mk (some ((.env 11), false)) (.env 12) (.mov (.mv (.slot 2))), .mk (some ((.env 11), false)) (.env 13) (.mov (.bin .neq .no (.env 12) (.const (.int .i64 (Int.ofNat 0))))), .mk none (.env 14) (.mov (.pick (.env 11) (.const (.bool true)) (.env 13))), .mk none (.env 15) (.mov (.mv (.env 14))), .mk (some ((.env 15), false)) (.env 16) (.mov (.mv (.slot 1))), .mk (some ((.env 15), false)) (.env 17) (.call 51 [(.env 16), (.const (.str [97]))]), .mk (some ((.env 15), false)) (.env 18) (.mov (.bin .neq .no (.env 17) (.const (.int .i64 (Int.ofNat 0))))), .mk none (.env 19) (.mov (.pick (.env 15) (.const (.bool true)) (.env 18))), .mk none (.env 20) (.mov (.mv (.env 19))), .mk (some ((.env 20), false)) (.env 21) (.mov (.mv (.slot 1))), .mk (some ((.env 20), false)) (.env 22) (.eff (.bslice 1 2 [(.int .u8 (Int.ofNat 0))] [(0, 1, (.const (.int .u8 (Int.ofNat 120)))), (1, 1, (.const (.int .u8 (Int.ofNat 121))))])), .mk (some ((.env 20), false)) (.env 23) (.eff (.mark (.env 22))), .mk (some ((.env 20), false)) (.env 24) (.call 53 [(.env 21), (.const (.str [97])), (.env 23)]), .mk (some ((.env 20), false)) (.env 25) (.mov (.bin .neq .no (.env 24) (.const (.int .i64 (Int.ofNat 0))))), .mk none (.slot 5) (.mov (.pick (.env 20) (.const (.bool true)) (.env 25)))]) (.cond (.slot 5) (.seq (.reg [.mk none (.slot 0) (.mov (.mv (.const (.bool false))))]) .ret) .skip)) (.seq (.reg [.mk none (.env 27) (.mov (.mv (.slot 1))), .mk none (.env 28) (.call 22 [(.env 27), (.const (.int .i64 (Int.ofNat 1)))])]) (.seq (.reg [.mk none (.env 30) (.mov (.mv (.slot 1))), .mk none (.env 31) (.call 32 [(.env 30), (.const (.str [97]))]), .mk none (.env 29) (.mov (.mv (.env 31))), .mk none (.env 32) (.mov (.ext 0 (.env 29))), .mk none (.env 33) (.mov (.ext 1 (.env 29))), .mk none (.slot 3) (.mov (.mv (.env 32))), .mk none (.slot 4) (.mov (.mv (.env 33)))]) (.seq (.reg [.mk none (.env 34) (.mov (.mv (.slot 4))), .mk none (.env 35) (.mov (.mv (.env 34))), .mk (some ((.env 35), true)) (.env 36) (.mov (.mv (.slot 3))), .mk (some ((.env 35), true)) (.env 37) (.mov (.b2s (.env 36))), .mk (some ((.env 35), true)) (.env 38) (.mov (.bin .eql .no (.env 37) (.const (.str [120])))), .mk none (.env 39) (.mov (.pick (.env 35) (.env 38) (.const (.bool false)))), .mk none (.env 40) (.mov (.mv (.env 39))), .mk (some ((.env 40), true)) (.env 41) (.mov (.mv (.slot 1))), .mk (some ((.env 40), true)) (.env 42) (.call 53 [(.env 41), (.const (.str [110, 111])), (.const .snil)]), .mk (some ((.env 40), true)) (.env 43) (.mov (.bin .eql .no (.env 42) (.const (.int .i64 (Int.ofNat 22))))), .mk none (.env 44) (.mov (.pick (.env 40) (.env 43) (.const (.bool false)))), .mk none (.env 45) (.mov (.mv (.env 44))), .mk (some ((.env 45), true)) (.env 46) (.mov (.mv (.slot 1))), .mk (some ((.env 45), true)) (.env 47) (.call 59 [(.env 46), (.const (.str [97])), (.const (.str [97]))]), .mk (some ((.env 45), true)) (.env 48) (.mov (.bin .eql .no (.env 47) (.const (.int .i64 (Int.ofNat 0))))), .mk none (.env 49) (.mov (.pick (.env 45) (.env 48) (.const (.bool false)))), .mk none (.slot 0) (.mov (.mv (.env 49)))]) .ret))))))
def K : List Nat := [0, 1, 2, 3, 4, 26]
def NT : Nat := 50
def top : BF := ⟨NT, K, c, [.slot (.slot 0)]⟩
theorem topf : bfOf Try.prog (drOf Try.prog) 16 K = some top := by kernel_rfl
noncomputable def ents : List (Nat × Ent MD) := [(13, .nat (n_new)), (22, .nat (n_int i64ok MD.crash)), (32, .nat (n_read)), (51, .nat (n_name MD.create)), (53, .nat (n_append)), (59, .nat (n_rename))]
noncomputable def tab : T (Ent MD) := (.node (.node (.node (.node (.node (.node .nil none (.node .nil (some (.nat (n_read))) .nil)) none .nil) none .nil) none .nil) none (.node .nil none (.node (.node .nil none (.node .nil (some (.nat (n_int i64ok MD.crash))) .nil)) none .nil))) none (.node (.node .nil none (.node (.node .nil none (.node .nil none (.node .nil (some (.nat (n_append))) .nil))) none (.node .nil (some (.nat (n_new))) .nil))) none (.node (.node (.node .nil none (.node .nil none (.node .nil (some (.nat (n_name MD.create))) .nil))) none (.node .nil none (.node .nil none (.node .nil (some (.nat (n_rename))) .nil)))) none .nil)))
theorem tab_eq : tab = tabT ents := rfl
theorem ents_ok : ∀ p ∈ ents, FnOK Try.prog OD p.1 (entF 100000 p.2) := by
  unfold ents
  refine List.forall_mem_cons.2 ⟨new_n, ?_⟩
  refine List.forall_mem_cons.2 ⟨crash_n, ?_⟩
  refine List.forall_mem_cons.2 ⟨read_n, ?_⟩
  refine List.forall_mem_cons.2 ⟨create_n, ?_⟩
  refine List.forall_mem_cons.2 ⟨append_n, ?_⟩
  refine List.forall_mem_cons.2 ⟨rename_n, ?_⟩
  intro p hp
  cases hp
noncomputable def D : Dp MD := k_disp tab 100000 100
theorem hD : DS Try.prog OD D := k_disp_ok ents_ok tab_eq 100
theorem hX : ∀ x y, eqMD x y = true → x = y := eqMD_ok
end Kn3
end Am
end Go.Proofs.Ythgcdoahoechhaa
