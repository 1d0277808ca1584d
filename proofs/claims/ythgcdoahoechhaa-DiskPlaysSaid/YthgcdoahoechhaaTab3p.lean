/- The functions that the laws of a layer reach, in one table. -/
import Derived.Test.YthgcdoahoechhaaL3p
import Derived.Test.YthgcdoahoechhaaAm39
import Derived.Test.YthgcdoahoechhaaMH
import Derived.Test.YthgcdoahoechhaaKn3c
import Derived.KernelRfl
set_option linter.unusedVariables false
set_option linter.unusedSimpArgs false
namespace Go.Proofs.Ythgcdoahoechhaa
namespace Am
open Go.RowKit
set_option maxRecDepth 1000000
theorem f_refAt : bfOf Try.prog (drOf Try.prog) 102 b_refAt.keep = some b_refAt := by kernel_rfl
theorem f_refUsed : bfOf Try.prog (drOf Try.prog) 69 b_refUsed.keep = some b_refUsed := by kernel_rfl
theorem f_refNamed : bfOf Try.prog (drOf Try.prog) 99 b_refNamed.keep = some b_refNamed := by kernel_rfl
theorem f_refGoes : bfOf Try.prog (drOf Try.prog) 100 b_refGoes.keep = some b_refGoes := by kernel_rfl
theorem f_refWithout : bfOf Try.prog (drOf Try.prog) 101 b_refWithout.keep = some b_refWithout := by kernel_rfl
theorem f_refCreate : bfOf Try.prog (drOf Try.prog) 52 b_refCreate.keep = some b_refCreate := by kernel_rfl
theorem f_refAppend : bfOf Try.prog (drOf Try.prog) 54 b_refAppend.keep = some b_refAppend := by kernel_rfl
theorem f_refSync : bfOf Try.prog (drOf Try.prog) 56 b_refSync.keep = some b_refSync := by kernel_rfl
theorem f_refCut : bfOf Try.prog (drOf Try.prog) 58 b_refCut.keep = some b_refCut := by kernel_rfl
theorem f_refRename : bfOf Try.prog (drOf Try.prog) 60 b_refRename.keep = some b_refRename := by kernel_rfl
theorem f_refRemove : bfOf Try.prog (drOf Try.prog) 62 b_refRemove.keep = some b_refRemove := by kernel_rfl
theorem f_refRead : bfOf Try.prog (drOf Try.prog) 70 b_refRead.keep = some b_refRead := by kernel_rfl
theorem f_refNames : bfOf Try.prog (drOf Try.prog) 67 b_refNames.keep = some b_refNames := by kernel_rfl
theorem f_refArm : bfOf Try.prog (drOf Try.prog) 63 b_refArm.keep = some b_refArm := by kernel_rfl
theorem f_refCrash : bfOf Try.prog (drOf Try.prog) 64 b_refCrash.keep = some b_refCrash := by kernel_rfl
theorem f_refGrow : bfOf Try.prog (drOf Try.prog) 66 b_refGrow.keep = some b_refGrow := by kernel_rfl
theorem f_l3file : bfOf Try.prog (drOf Try.prog) 50 b_l3file.keep = some b_l3file := by kernel_rfl
theorem f_keepHead : bfOf Try.prog (drOf Try.prog) 95 b_keepHead.keep = some b_keepHead := by kernel_rfl
theorem f_keepCut : bfOf Try.prog (drOf Try.prog) 27 b_keepCut.keep = some b_keepCut := by kernel_rfl
theorem f_Within : bfOf Try.prog (drOf Try.prog) 12 b_Within.keep = some b_Within := by kernel_rfl
theorem f_sameStr : bfOf Try.prog (drOf Try.prog) 68 b_sameStr.keep = some b_sameStr := by kernel_rfl
theorem f_do3 : bfOf Try.prog (drOf Try.prog) 14 b_do3.keep = some b_do3 := by kernel_rfl
theorem f_same3 : bfOf Try.prog (drOf Try.prog) 15 b_same3.keep = some b_same3 := by kernel_rfl
theorem f_DiskPlays : bfOf Try.prog (drOf Try.prog) 3 b_DiskPlays.keep = some b_DiskPlays := by kernel_rfl
noncomputable def LL3p : List (Nat × Ent MD) := [(102, .bc b_refAt), (69, .bc b_refUsed), (99, .bc b_refNamed), (100, .bc b_refGoes), (101, .bc b_refWithout), (52, .bc b_refCreate), (54, .bc b_refAppend), (56, .bc b_refSync), (58, .bc b_refCut), (60, .bc b_refRename), (62, .bc b_refRemove), (70, .bc b_refRead), (67, .bc b_refNames), (63, .bc b_refArm), (64, .bc b_refCrash), (66, .bc b_refGrow), (50, .bc b_l3file), (95, .bc b_keepHead), (27, .bc b_keepCut), (12, .bc b_Within), (68, .bc b_sameStr), (14, .bc b_do3), (15, .bc b_same3), (3, .bc b_DiskPlays), (51, .nat (n_name MD.create)), (53, .nat (n_append)), (55, .nat (n_name MD.sync)), (57, .nat (n_cut)), (59, .nat (n_rename)), (61, .nat (n_name MD.remove)), (28, .nat (n_int i64ok MD.arm)), (22, .nat (n_int i64ok MD.crash)), (65, .nat (n_grow)), (33, .nat (n_names)), (30, .nat (n_used)), (29, .nat (n_down)), (71, .nat (n_synced)), (32, .nat (n_read)), (13, .nat (n_new)), (16, .nat n_true)]
noncomputable def EL3p : Nat → Option (Ent MD) := look LL3p
theorem EL3p_plain : ∀ f e, EL3p f = some e → e.plain := look_plain (l := LL3p) (by
  unfold LL3p
  refine List.forall_mem_cons.2 ⟨True.intro, ?_⟩
  refine List.forall_mem_cons.2 ⟨True.intro, ?_⟩
  refine List.forall_mem_cons.2 ⟨True.intro, ?_⟩
  refine List.forall_mem_cons.2 ⟨True.intro, ?_⟩
  refine List.forall_mem_cons.2 ⟨True.intro, ?_⟩
  refine List.forall_mem_cons.2 ⟨True.intro, ?_⟩
  refine List.forall_mem_cons.2 ⟨True.intro, ?_⟩
  refine List.forall_mem_cons.2 ⟨True.intro, ?_⟩
  refine List.forall_mem_cons.2 ⟨True.intro, ?_⟩
  refine List.forall_mem_cons.2 ⟨True.intro, ?_⟩
  refine List.forall_mem_cons.2 ⟨True.intro, ?_⟩
  refine List.forall_mem_cons.2 ⟨True.intro, ?_⟩
  refine List.forall_mem_cons.2 ⟨True.intro, ?_⟩
  refine List.forall_mem_cons.2 ⟨True.intro, ?_⟩
  refine List.forall_mem_cons.2 ⟨True.intro, ?_⟩
  refine List.forall_mem_cons.2 ⟨True.intro, ?_⟩
  refine List.forall_mem_cons.2 ⟨True.intro, ?_⟩
  refine List.forall_mem_cons.2 ⟨True.intro, ?_⟩
  refine List.forall_mem_cons.2 ⟨True.intro, ?_⟩
  refine List.forall_mem_cons.2 ⟨True.intro, ?_⟩
  refine List.forall_mem_cons.2 ⟨True.intro, ?_⟩
  refine List.forall_mem_cons.2 ⟨True.intro, ?_⟩
  refine List.forall_mem_cons.2 ⟨True.intro, ?_⟩
  refine List.forall_mem_cons.2 ⟨True.intro, ?_⟩
  refine List.forall_mem_cons.2 ⟨fun _ _ => rfl, ?_⟩
  refine List.forall_mem_cons.2 ⟨fun _ _ => rfl, ?_⟩
  refine List.forall_mem_cons.2 ⟨fun _ _ => rfl, ?_⟩
  refine List.forall_mem_cons.2 ⟨fun _ _ => rfl, ?_⟩
  refine List.forall_mem_cons.2 ⟨fun _ _ => rfl, ?_⟩
  refine List.forall_mem_cons.2 ⟨fun _ _ => rfl, ?_⟩
  refine List.forall_mem_cons.2 ⟨fun _ _ => rfl, ?_⟩
  refine List.forall_mem_cons.2 ⟨fun _ _ => rfl, ?_⟩
  refine List.forall_mem_cons.2 ⟨fun _ _ => rfl, ?_⟩
  refine List.forall_mem_cons.2 ⟨fun _ _ => rfl, ?_⟩
  refine List.forall_mem_cons.2 ⟨fun _ _ => rfl, ?_⟩
  refine List.forall_mem_cons.2 ⟨fun _ _ => rfl, ?_⟩
  refine List.forall_mem_cons.2 ⟨fun _ _ => rfl, ?_⟩
  refine List.forall_mem_cons.2 ⟨fun _ _ => rfl, ?_⟩
  refine List.forall_mem_cons.2 ⟨fun _ _ => rfl, ?_⟩
  refine List.forall_mem_cons.2 ⟨fun _ _ => rfl, ?_⟩
  intro p hp
  cases hp)
theorem EL3p_ok : ∀ f e, EL3p f = some e → ∀ N, FnOK Try.prog OD f (entF N e) := look_ok (P := Try.prog) (O := OD) (l := LL3p) (by
  unfold LL3p
  refine List.forall_mem_cons.2 ⟨fun N => ent_bc N f_refAt, ?_⟩
  refine List.forall_mem_cons.2 ⟨fun N => ent_bc N f_refUsed, ?_⟩
  refine List.forall_mem_cons.2 ⟨fun N => ent_bc N f_refNamed, ?_⟩
  refine List.forall_mem_cons.2 ⟨fun N => ent_bc N f_refGoes, ?_⟩
  refine List.forall_mem_cons.2 ⟨fun N => ent_bc N f_refWithout, ?_⟩
  refine List.forall_mem_cons.2 ⟨fun N => ent_bc N f_refCreate, ?_⟩
  refine List.forall_mem_cons.2 ⟨fun N => ent_bc N f_refAppend, ?_⟩
  refine List.forall_mem_cons.2 ⟨fun N => ent_bc N f_refSync, ?_⟩
  refine List.forall_mem_cons.2 ⟨fun N => ent_bc N f_refCut, ?_⟩
  refine List.forall_mem_cons.2 ⟨fun N => ent_bc N f_refRename, ?_⟩
  refine List.forall_mem_cons.2 ⟨fun N => ent_bc N f_refRemove, ?_⟩
  refine List.forall_mem_cons.2 ⟨fun N => ent_bc N f_refRead, ?_⟩
  refine List.forall_mem_cons.2 ⟨fun N => ent_bc N f_refNames, ?_⟩
  refine List.forall_mem_cons.2 ⟨fun N => ent_bc N f_refArm, ?_⟩
  refine List.forall_mem_cons.2 ⟨fun N => ent_bc N f_refCrash, ?_⟩
  refine List.forall_mem_cons.2 ⟨fun N => ent_bc N f_refGrow, ?_⟩
  refine List.forall_mem_cons.2 ⟨fun N => ent_bc N f_l3file, ?_⟩
  refine List.forall_mem_cons.2 ⟨fun N => ent_bc N f_keepHead, ?_⟩
  refine List.forall_mem_cons.2 ⟨fun N => ent_bc N f_keepCut, ?_⟩
  refine List.forall_mem_cons.2 ⟨fun N => ent_bc N f_Within, ?_⟩
  refine List.forall_mem_cons.2 ⟨fun N => ent_bc N f_sameStr, ?_⟩
  refine List.forall_mem_cons.2 ⟨fun N => ent_bc N f_do3, ?_⟩
  refine List.forall_mem_cons.2 ⟨fun N => ent_bc N f_same3, ?_⟩
  refine List.forall_mem_cons.2 ⟨fun N => ent_bc N f_DiskPlays, ?_⟩
  refine List.forall_mem_cons.2 ⟨fun _ => create_n, ?_⟩
  refine List.forall_mem_cons.2 ⟨fun _ => append_n, ?_⟩
  refine List.forall_mem_cons.2 ⟨fun _ => sync_n, ?_⟩
  refine List.forall_mem_cons.2 ⟨fun _ => cut_n, ?_⟩
  refine List.forall_mem_cons.2 ⟨fun _ => rename_n, ?_⟩
  refine List.forall_mem_cons.2 ⟨fun _ => remove_n, ?_⟩
  refine List.forall_mem_cons.2 ⟨fun _ => arm_n, ?_⟩
  refine List.forall_mem_cons.2 ⟨fun _ => crash_n, ?_⟩
  refine List.forall_mem_cons.2 ⟨fun _ => grow_n, ?_⟩
  refine List.forall_mem_cons.2 ⟨fun _ => names_n, ?_⟩
  refine List.forall_mem_cons.2 ⟨fun _ => used_n, ?_⟩
  refine List.forall_mem_cons.2 ⟨fun _ => down_n, ?_⟩
  refine List.forall_mem_cons.2 ⟨fun _ => synced_n, ?_⟩
  refine List.forall_mem_cons.2 ⟨fun _ => read_n, ?_⟩
  refine List.forall_mem_cons.2 ⟨fun _ => new_n, ?_⟩
  refine List.forall_mem_cons.2 ⟨fun _ => true_n (by kernel_rfl) Kn3.walk, ?_⟩
  intro p hp
  cases hp)
theorem v3p : RdS EL3p where
  at_ := rfl
  used := rfl
  named := rfl
  goes := rfl
  without := rfl
  rcreate := rfl
  rappend := rfl
  rsync := rfl
  rcut := rfl
  rrename := rfl
  rremove := rfl
  rread := rfl
  rnames := rfl
  rarm := rfl
  rcrash := rfl
  rgrow := rfl
  file := rfl
  head := rfl
  cut := rfl
  within := rfl
  sames := rfl
  create := rfl
  append := rfl
  sync := rfl
  dcut := rfl
  rename := rfl
  remove := rfl
  arm := rfl
  crash := rfl
  grow := rfl
  do_ := rfl
  names := rfl
  used_ := rfl
  down := rfl
  synced := rfl
  dread := rfl
  same := rfl
end Am
end Go.Proofs.Ythgcdoahoechhaa
