/- The functions that the laws of a layer reach, in one table. -/
import Derived.Test.YthgcdoahoechhaaL5a
import Derived.Test.YthgcdoahoechhaaAm37
import Derived.Test.YthgcdoahoechhaaMH
import Derived.Test.YthgcdoahoechhaaKn5c
import Derived.KernelRfl
set_option linter.unusedVariables false
set_option linter.unusedSimpArgs false
namespace Go.Proofs.Ythgcdoahoechhaa
namespace Am
open Go.RowKit
set_option maxRecDepth 1000000
theorem f_frEntry : bfOf Try.prog (drOf Try.prog) 118 b_frEntry.keep = some b_frEntry := by kernel_rfl
theorem f_frNumber : bfOf Try.prog (drOf Try.prog) 117 b_frNumber.keep = some b_frNumber := by kernel_rfl
theorem f_frTake : bfOf Try.prog (drOf Try.prog) 126 b_frTake.keep = some b_frTake := by kernel_rfl
theorem f_clone : bfOf Try.prog (drOf Try.prog) 85 b_clone.keep = some b_clone := by kernel_rfl
theorem f_octGet : bfOf Try.prog (drOf Try.prog) 112 b_octGet.keep = some b_octGet := by kernel_rfl
theorem f_frValue : bfOf Try.prog (drOf Try.prog) 107 b_frValue.keep = some b_frValue := by kernel_rfl
theorem f_frBatch : bfOf Try.prog (drOf Try.prog) 76 b_frBatch.keep = some b_frBatch := by kernel_rfl
theorem f_octPut : bfOf Try.prog (drOf Try.prog) 106 b_octPut.keep = some b_octPut := by kernel_rfl
theorem f_frEntries : bfOf Try.prog (drOf Try.prog) 75 b_frEntries.keep = some b_frEntries := by kernel_rfl
theorem f_keepCut : bfOf Try.prog (drOf Try.prog) 27 b_keepCut.keep = some b_keepCut := by kernel_rfl
theorem f_keepEntries : bfOf Try.prog (drOf Try.prog) 72 b_keepEntries.keep = some b_keepEntries := by kernel_rfl
theorem f_w5batches : bfOf Try.prog (drOf Try.prog) 17 b_w5batches.keep = some b_w5batches := by kernel_rfl
theorem f_w5laid : bfOf Try.prog (drOf Try.prog) 25 b_w5laid.keep = some b_w5laid := by kernel_rfl
theorem f_ref4Put : bfOf Try.prog (drOf Try.prog) 42 b_ref4Put.keep = some b_ref4Put := by kernel_rfl
theorem f_ref2Put : bfOf Try.prog (drOf Try.prog) 86 b_ref2Put.keep = some b_ref2Put := by kernel_rfl
theorem f_ref4Batch : bfOf Try.prog (drOf Try.prog) 81 b_ref4Batch.keep = some b_ref4Batch := by kernel_rfl
theorem f_ref8Same : bfOf Try.prog (drOf Try.prog) 79 b_ref8Same.keep = some b_ref8Same := by kernel_rfl
theorem f_w5same : bfOf Try.prog (drOf Try.prog) 23 b_w5same.keep = some b_w5same := by kernel_rfl
theorem f_walBegin : bfOf Try.prog (drOf Try.prog) 73 b_walBegin.keep = some b_walBegin := by kernel_rfl
theorem f_walOpen : bfOf Try.prog (drOf Try.prog) 19 b_walOpen.keep = some b_walOpen := by kernel_rfl
theorem f_walAdd : bfOf Try.prog (drOf Try.prog) 20 b_walAdd.keep = some b_walAdd := by kernel_rfl
theorem f_clipB : bfOf Try.prog (drOf Try.prog) 78 b_clipB.keep = some b_clipB := by kernel_rfl
theorem f_walSync : bfOf Try.prog (drOf Try.prog) 21 b_walSync.keep = some b_walSync := by kernel_rfl
theorem f_walCount : bfOf Try.prog (drOf Try.prog) 31 b_walCount.keep = some b_walCount := by kernel_rfl
theorem f_walName : bfOf Try.prog (drOf Try.prog) 80 b_walName.keep = some b_walName := by kernel_rfl
theorem f_frAll : bfOf Try.prog (drOf Try.prog) 74 b_frAll.keep = some b_frAll := by kernel_rfl
theorem f_frLength : bfOf Try.prog (drOf Try.prog) 104 b_frLength.keep = some b_frLength := by kernel_rfl
theorem f_frPut : bfOf Try.prog (drOf Try.prog) 77 b_frPut.keep = some b_frPut := by kernel_rfl
theorem f_w5fresh : bfOf Try.prog (drOf Try.prog) 18 b_w5fresh.keep = some b_w5fresh := by kernel_rfl
theorem f_w5on : bfOf Try.prog (drOf Try.prog) 82 b_w5on.keep = some b_w5on := by kernel_rfl
theorem f_ref4Entries : bfOf Try.prog (drOf Try.prog) 83 b_ref4Entries.keep = some b_ref4Entries := by kernel_rfl
theorem f_ref4Num : bfOf Try.prog (drOf Try.prog) 93 b_ref4Num.keep = some b_ref4Num := by kernel_rfl
theorem f_ref4Some : bfOf Try.prog (drOf Try.prog) 108 b_ref4Some.keep = some b_ref4Some := by kernel_rfl
theorem f_ref2Get : bfOf Try.prog (drOf Try.prog) 92 b_ref2Get.keep = some b_ref2Get := by kernel_rfl
theorem f_w5opens : bfOf Try.prog (drOf Try.prog) 26 b_w5opens.keep = some b_w5opens := by kernel_rfl
theorem f_ref4All : bfOf Try.prog (drOf Try.prog) 45 b_ref4All.keep = some b_ref4All := by kernel_rfl
theorem f_Within : bfOf Try.prog (drOf Try.prog) 12 b_Within.keep = some b_Within := by kernel_rfl
theorem f_WalOpens : bfOf Try.prog (drOf Try.prog) 5 b_WalOpens.keep = some b_WalOpens := by kernel_rfl
theorem f_frRead : dfOf Try.prog 105 b_frRead.keep b_frRead.G.g b_frRead.G.keep = some b_frRead := by kernel_rfl
noncomputable def LL5a : List (Nat × Ent MD) := [(118, .bc b_frEntry), (117, .bc b_frNumber), (126, .bc b_frTake), (85, .bc b_clone), (112, .bc b_octGet), (107, .bc b_frValue), (76, .bc b_frBatch), (106, .bc b_octPut), (75, .bc b_frEntries), (27, .bc b_keepCut), (72, .bc b_keepEntries), (17, .bc b_w5batches), (25, .bc b_w5laid), (42, .bc b_ref4Put), (86, .bc b_ref2Put), (81, .bc b_ref4Batch), (79, .bc b_ref8Same), (23, .bc b_w5same), (73, .bc b_walBegin), (19, .bc b_walOpen), (20, .bc b_walAdd), (78, .bc b_clipB), (21, .bc b_walSync), (31, .bc b_walCount), (80, .bc b_walName), (74, .bc b_frAll), (104, .bc b_frLength), (77, .bc b_frPut), (18, .bc b_w5fresh), (82, .bc b_w5on), (83, .bc b_ref4Entries), (93, .bc b_ref4Num), (108, .bc b_ref4Some), (92, .bc b_ref2Get), (26, .bc b_w5opens), (45, .bc b_ref4All), (12, .bc b_Within), (5, .bc b_WalOpens), (105, .df b_frRead), (51, .nat (n_name MD.create)), (53, .nat (n_append)), (55, .nat (n_name MD.sync)), (57, .nat (n_cut)), (32, .nat (n_read)), (13, .nat (n_new)), (22, .nat (n_int i64ok MD.crash)), (71, .nat (n_synced)), (24, .nat n_true)]
noncomputable def EL5a : Nat → Option (Ent MD) := look LL5a
theorem EL5a_plain : ∀ f e, EL5a f = some e → e.plain := look_plain (l := LL5a) (by
  unfold LL5a
  refine List.forall_mem_cons.2 ⟨True.intro, ?_⟩
  refine List.forall_mem_cons.2 ⟨True.intro, ?_⟩
  refine List.forall_mem_cons.2 ⟨True.intro, ?_⟩
  refine List.forall_mem_cons.2 ⟨True.intro, ?_⟩
  refine List.forall_mem_cons.2 ⟨True.intro, ?_⟩
  refine List.forall_mem_cons.2 ⟨True.intro, ?_⟩
  refine List.forall_mem_cons.2 ⟨True.intro, ?_⟩
  refine List.forall_mem_cons.2 ⟨True.intro, ?_⟩
  refine List.forall_mem_cons.2 ⟨True.intro, ?_⟩
  refine List.forall_mem_cons.2 ⟨True.intro, ?_⟩
  refine List.forall_mem_cons.2 ⟨True.intro, ?_⟩
  refine List.forall_mem_cons.2 ⟨True.intro, ?_⟩
  refine List.forall_mem_cons.2 ⟨True.intro, ?_⟩
  refine List.forall_mem_cons.2 ⟨True.intro, ?_⟩
  refine List.forall_mem_cons.2 ⟨True.intro, ?_⟩
  refine List.forall_mem_cons.2 ⟨True.intro, ?_⟩
  refine List.forall_mem_cons.2 ⟨True.intro, ?_⟩
  refine List.forall_mem_cons.2 ⟨True.intro, ?_⟩
  refine List.forall_mem_cons.2 ⟨True.intro, ?_⟩
  refine List.forall_mem_cons.2 ⟨True.intro, ?_⟩
  refine List.forall_mem_cons.2 ⟨True.intro, ?_⟩
  refine List.forall_mem_cons.2 ⟨True.intro, ?_⟩
  refine List.forall_mem_cons.2 ⟨True.intro, ?_⟩
  refine List.forall_mem_cons.2 ⟨True.intro, ?_⟩
  refine List.forall_mem_cons.2 ⟨True.intro, ?_⟩
  refine List.forall_mem_cons.2 ⟨True.intro, ?_⟩
  refine List.forall_mem_cons.2 ⟨True.intro, ?_⟩
  refine List.forall_mem_cons.2 ⟨True.intro, ?_⟩
  refine List.forall_mem_cons.2 ⟨True.intro, ?_⟩
  refine List.forall_mem_cons.2 ⟨True.intro, ?_⟩
  refine List.forall_mem_cons.2 ⟨True.intro, ?_⟩
  refine List.forall_mem_cons.2 ⟨True.intro, ?_⟩
  refine List.forall_mem_cons.2 ⟨True.intro, ?_⟩
  refine List.forall_mem_cons.2 ⟨True.intro, ?_⟩
  refine List.forall_mem_cons.2 ⟨True.intro, ?_⟩
  refine List.forall_mem_cons.2 ⟨True.intro, ?_⟩
  refine List.forall_mem_cons.2 ⟨True.intro, ?_⟩
  refine List.forall_mem_cons.2 ⟨True.intro, ?_⟩
  refine List.forall_mem_cons.2 ⟨True.intro, ?_⟩
  refine List.forall_mem_cons.2 ⟨fun _ _ => rfl, ?_⟩
  refine List.forall_mem_cons.2 ⟨fun _ _ => rfl, ?_⟩
  refine List.forall_mem_cons.2 ⟨fun _ _ => rfl, ?_⟩
  refine List.forall_mem_cons.2 ⟨fun _ _ => rfl, ?_⟩
  refine List.forall_mem_cons.2 ⟨fun _ _ => rfl, ?_⟩
  refine List.forall_mem_cons.2 ⟨fun _ _ => rfl, ?_⟩
  refine List.forall_mem_cons.2 ⟨fun _ _ => rfl, ?_⟩
  refine List.forall_mem_cons.2 ⟨fun _ _ => rfl, ?_⟩
  refine List.forall_mem_cons.2 ⟨fun _ _ => rfl, ?_⟩
  intro p hp
  cases hp)
theorem EL5a_ok : ∀ f e, EL5a f = some e → ∀ N, FnOK Try.prog OD f (entF N e) := look_ok (P := Try.prog) (O := OD) (l := LL5a) (by
  unfold LL5a
  refine List.forall_mem_cons.2 ⟨fun N => ent_bc N f_frEntry, ?_⟩
  refine List.forall_mem_cons.2 ⟨fun N => ent_bc N f_frNumber, ?_⟩
  refine List.forall_mem_cons.2 ⟨fun N => ent_bc N f_frTake, ?_⟩
  refine List.forall_mem_cons.2 ⟨fun N => ent_bc N f_clone, ?_⟩
  refine List.forall_mem_cons.2 ⟨fun N => ent_bc N f_octGet, ?_⟩
  refine List.forall_mem_cons.2 ⟨fun N => ent_bc N f_frValue, ?_⟩
  refine List.forall_mem_cons.2 ⟨fun N => ent_bc N f_frBatch, ?_⟩
  refine List.forall_mem_cons.2 ⟨fun N => ent_bc N f_octPut, ?_⟩
  refine List.forall_mem_cons.2 ⟨fun N => ent_bc N f_frEntries, ?_⟩
  refine List.forall_mem_cons.2 ⟨fun N => ent_bc N f_keepCut, ?_⟩
  refine List.forall_mem_cons.2 ⟨fun N => ent_bc N f_keepEntries, ?_⟩
  refine List.forall_mem_cons.2 ⟨fun N => ent_bc N f_w5batches, ?_⟩
  refine List.forall_mem_cons.2 ⟨fun N => ent_bc N f_w5laid, ?_⟩
  refine List.forall_mem_cons.2 ⟨fun N => ent_bc N f_ref4Put, ?_⟩
  refine List.forall_mem_cons.2 ⟨fun N => ent_bc N f_ref2Put, ?_⟩
  refine List.forall_mem_cons.2 ⟨fun N => ent_bc N f_ref4Batch, ?_⟩
  refine List.forall_mem_cons.2 ⟨fun N => ent_bc N f_ref8Same, ?_⟩
  refine List.forall_mem_cons.2 ⟨fun N => ent_bc N f_w5same, ?_⟩
  refine List.forall_mem_cons.2 ⟨fun N => ent_bc N f_walBegin, ?_⟩
  refine List.forall_mem_cons.2 ⟨fun N => ent_bc N f_walOpen, ?_⟩
  refine List.forall_mem_cons.2 ⟨fun N => ent_bc N f_walAdd, ?_⟩
  refine List.forall_mem_cons.2 ⟨fun N => ent_bc N f_clipB, ?_⟩
  refine List.forall_mem_cons.2 ⟨fun N => ent_bc N f_walSync, ?_⟩
  refine List.forall_mem_cons.2 ⟨fun N => ent_bc N f_walCount, ?_⟩
  refine List.forall_mem_cons.2 ⟨fun N => ent_bc N f_walName, ?_⟩
  refine List.forall_mem_cons.2 ⟨fun N => ent_bc N f_frAll, ?_⟩
  refine List.forall_mem_cons.2 ⟨fun N => ent_bc N f_frLength, ?_⟩
  refine List.forall_mem_cons.2 ⟨fun N => ent_bc N f_frPut, ?_⟩
  refine List.forall_mem_cons.2 ⟨fun N => ent_bc N f_w5fresh, ?_⟩
  refine List.forall_mem_cons.2 ⟨fun N => ent_bc N f_w5on, ?_⟩
  refine List.forall_mem_cons.2 ⟨fun N => ent_bc N f_ref4Entries, ?_⟩
  refine List.forall_mem_cons.2 ⟨fun N => ent_bc N f_ref4Num, ?_⟩
  refine List.forall_mem_cons.2 ⟨fun N => ent_bc N f_ref4Some, ?_⟩
  refine List.forall_mem_cons.2 ⟨fun N => ent_bc N f_ref2Get, ?_⟩
  refine List.forall_mem_cons.2 ⟨fun N => ent_bc N f_w5opens, ?_⟩
  refine List.forall_mem_cons.2 ⟨fun N => ent_bc N f_ref4All, ?_⟩
  refine List.forall_mem_cons.2 ⟨fun N => ent_bc N f_Within, ?_⟩
  refine List.forall_mem_cons.2 ⟨fun N => ent_bc N f_WalOpens, ?_⟩
  refine List.forall_mem_cons.2 ⟨fun N => ent_df N f_frRead, ?_⟩
  refine List.forall_mem_cons.2 ⟨fun _ => create_n, ?_⟩
  refine List.forall_mem_cons.2 ⟨fun _ => append_n, ?_⟩
  refine List.forall_mem_cons.2 ⟨fun _ => sync_n, ?_⟩
  refine List.forall_mem_cons.2 ⟨fun _ => cut_n, ?_⟩
  refine List.forall_mem_cons.2 ⟨fun _ => read_n, ?_⟩
  refine List.forall_mem_cons.2 ⟨fun _ => new_n, ?_⟩
  refine List.forall_mem_cons.2 ⟨fun _ => crash_n, ?_⟩
  refine List.forall_mem_cons.2 ⟨fun _ => synced_n, ?_⟩
  refine List.forall_mem_cons.2 ⟨fun _ => true_n (by kernel_rfl) Kn5.walk, ?_⟩
  intro p hp
  cases hp)
theorem v5a : WaV EL5a where
  entries := rfl
  rd := ⟨rfl, rfl, rfl, rfl, rfl, rfl⟩
  bt := ⟨rfl, rfl, rfl, rfl⟩
  begin_ := rfl
  open_ := rfl
  add := rfl
  clip := rfl
  wsync := rfl
  count := rfl
  wname := rfl
  frall := rfl
  frlength := rfl
  frput := rfl
  create := rfl
  append := rfl
  sync := rfl
  dcut := rfl
  dread := rfl
  cut := rfl
  ents := rfl
  bats := rfl
  laid := rfl
  r4put := rfl
  rput := rfl
  r4batch := rfl
  r8same := rfl
  same := rfl
  new := rfl
  crash := rfl
  known := rfl
  fresh := rfl
  on := rfl
theorem v5aO : WaO EL5a where
  toWaV := v5a
  r4ents := rfl
  r4num := rfl
  some_ := rfl
  r2get := rfl
  opens := rfl
  r4all := rfl
  synced := rfl
end Am
end Go.Proofs.Ythgcdoahoechhaa
