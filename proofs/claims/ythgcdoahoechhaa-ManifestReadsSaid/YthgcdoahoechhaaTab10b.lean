/- The functions that the laws of a layer reach, in one table. -/
import Derived.Test.YthgcdoahoechhaaL10b
import Derived.Test.YthgcdoahoechhaaKn10c
import Derived.Test.YthgcdoahoechhaaAm36
import Derived.Test.YthgcdoahoechhaaMH
import Derived.KernelRfl
set_option linter.unusedVariables false
set_option linter.unusedSimpArgs false
namespace Go.Proofs.Ythgcdoahoechhaa
namespace Am
open Go.RowKit
set_option maxRecDepth 1000000
theorem f_mfRight : bfOf Try.prog (drOf Try.prog) 110 b_mfRight.keep = some b_mfRight := by kernel_rfl
theorem f_hasI : bfOf Try.prog (drOf Try.prog) 122 b_hasI.keep = some b_hasI := by kernel_rfl
theorem f_idxI : bfOf Try.prog (drOf Try.prog) 128 b_idxI.keep = some b_idxI := by kernel_rfl
theorem f_concatI : bfOf Try.prog (drOf Try.prog) 111 b_concatI.keep = some b_concatI := by kernel_rfl
theorem f_growI : bfOf Try.prog (drOf Try.prog) 123 b_growI.keep = some b_growI := by kernel_rfl
theorem f_octPut : bfOf Try.prog (drOf Try.prog) 106 b_octPut.keep = some b_octPut := by kernel_rfl
theorem f_clone : bfOf Try.prog (drOf Try.prog) 85 b_clone.keep = some b_clone := by kernel_rfl
theorem f_mfEncode : bfOf Try.prog (drOf Try.prog) 87 b_mfEncode.keep = some b_mfEncode := by kernel_rfl
theorem f_octGet : bfOf Try.prog (drOf Try.prog) 112 b_octGet.keep = some b_octGet := by kernel_rfl
theorem f_cloneI : bfOf Try.prog (drOf Try.prog) 113 b_cloneI.keep = some b_cloneI := by kernel_rfl
theorem f_mfDecode : bfOf Try.prog (drOf Try.prog) 89 b_mfDecode.keep = some b_mfDecode := by kernel_rfl
theorem f_frPut : bfOf Try.prog (drOf Try.prog) 77 b_frPut.keep = some b_frPut := by kernel_rfl
theorem f_frAll : bfOf Try.prog (drOf Try.prog) 74 b_frAll.keep = some b_frAll := by kernel_rfl
theorem f_frLength : bfOf Try.prog (drOf Try.prog) 104 b_frLength.keep = some b_frLength := by kernel_rfl
theorem f_mfWrite : bfOf Try.prog (drOf Try.prog) 49 b_mfWrite.keep = some b_mfWrite := by kernel_rfl
theorem f_mfRead : bfOf Try.prog (drOf Try.prog) 44 b_mfRead.keep = some b_mfRead := by kernel_rfl
theorem f_ref4Num : bfOf Try.prog (drOf Try.prog) 93 b_ref4Num.keep = some b_ref4Num := by kernel_rfl
theorem f_ref2Get : bfOf Try.prog (drOf Try.prog) 92 b_ref2Get.keep = some b_ref2Get := by kernel_rfl
theorem f_ref10May : bfOf Try.prog (drOf Try.prog) 88 b_ref10May.keep = some b_ref10May := by kernel_rfl
theorem f_ref10Decode : bfOf Try.prog (drOf Try.prog) 46 b_ref10Decode.keep = some b_ref10Decode := by kernel_rfl
theorem f_ref2Put : bfOf Try.prog (drOf Try.prog) 86 b_ref2Put.keep = some b_ref2Put := by kernel_rfl
theorem f_ref10Encode : bfOf Try.prog (drOf Try.prog) 35 b_ref10Encode.keep = some b_ref10Encode := by kernel_rfl
theorem f_mfFresh : bfOf Try.prog (drOf Try.prog) 48 b_mfFresh.keep = some b_mfFresh := by kernel_rfl
theorem f_mfOn : bfOf Try.prog (drOf Try.prog) 43 b_mfOn.keep = some b_mfOn := by kernel_rfl
theorem f_sameI : bfOf Try.prog (drOf Try.prog) 94 b_sameI.keep = some b_sameI := by kernel_rfl
theorem f_mfSame : bfOf Try.prog (drOf Try.prog) 47 b_mfSame.keep = some b_mfSame := by kernel_rfl
theorem f_mfEncodes : bfOf Try.prog (drOf Try.prog) 36 b_mfEncodes.keep = some b_mfEncodes := by kernel_rfl
theorem f_mfDecodes : bfOf Try.prog (drOf Try.prog) 37 b_mfDecodes.keep = some b_mfDecodes := by kernel_rfl
theorem f_Within : bfOf Try.prog (drOf Try.prog) 12 b_Within.keep = some b_Within := by kernel_rfl
theorem f_mfMade : bfOf Try.prog (drOf Try.prog) 34 b_mfMade.keep = some b_mfMade := by kernel_rfl
theorem f_keepCut : bfOf Try.prog (drOf Try.prog) 27 b_keepCut.keep = some b_keepCut := by kernel_rfl
theorem f_ref4Put : bfOf Try.prog (drOf Try.prog) 42 b_ref4Put.keep = some b_ref4Put := by kernel_rfl
theorem f_ref4All : bfOf Try.prog (drOf Try.prog) 45 b_ref4All.keep = some b_ref4All := by kernel_rfl
theorem f_mfDigits : bfOf Try.prog (drOf Try.prog) 90 b_mfDigits.keep = some b_mfDigits := by kernel_rfl
theorem f_mfTable : bfOf Try.prog (drOf Try.prog) 38 b_mfTable.keep = some b_mfTable := by kernel_rfl
theorem f_mfWal : bfOf Try.prog (drOf Try.prog) 40 b_mfWal.keep = some b_mfWal := by kernel_rfl
theorem f_ref1Whole : bfOf Try.prog (drOf Try.prog) 39 b_ref1Whole.keep = some b_ref1Whole := by kernel_rfl
theorem f_ref1parts : bfOf Try.prog (drOf Try.prog) 91 b_ref1parts.keep = some b_ref1parts := by kernel_rfl
theorem f_ManifestReads : bfOf Try.prog (drOf Try.prog) 9 b_ManifestReads.keep = some b_ManifestReads := by kernel_rfl
noncomputable def L10b : List (Nat × Ent MD) := [(110, .bc b_mfRight), (122, .bc b_hasI), (128, .bc b_idxI), (111, .bc b_concatI), (123, .bc b_growI), (106, .bc b_octPut), (85, .bc b_clone), (87, .bc b_mfEncode), (112, .bc b_octGet), (113, .bc b_cloneI), (89, .bc b_mfDecode), (77, .bc b_frPut), (74, .bc b_frAll), (104, .bc b_frLength), (49, .bc b_mfWrite), (44, .bc b_mfRead), (93, .bc b_ref4Num), (92, .bc b_ref2Get), (88, .bc b_ref10May), (46, .bc b_ref10Decode), (86, .bc b_ref2Put), (35, .bc b_ref10Encode), (48, .bc b_mfFresh), (43, .bc b_mfOn), (94, .bc b_sameI), (47, .bc b_mfSame), (36, .bc b_mfEncodes), (37, .bc b_mfDecodes), (12, .bc b_Within), (34, .bc b_mfMade), (27, .bc b_keepCut), (42, .bc b_ref4Put), (45, .bc b_ref4All), (90, .bc b_mfDigits), (38, .bc b_mfTable), (40, .bc b_mfWal), (39, .bc b_ref1Whole), (91, .bc b_ref1parts), (9, .bc b_ManifestReads), (13, .nat (n_new)), (51, .nat (n_name MD.create)), (55, .nat (n_name MD.sync)), (53, .nat (n_append)), (59, .nat (n_rename)), (32, .nat (n_read)), (33, .nat (n_names)), (28, .nat (n_int i64ok MD.arm)), (22, .nat (n_int i64ok MD.crash)), (41, .nat n_true)]
noncomputable def E10b : Nat → Option (Ent MD) := look L10b
theorem E10b_plain : ∀ f e, E10b f = some e → e.plain := look_plain (l := L10b) (by
  unfold L10b
  refine List.forall_mem_cons.2 ⟨True.intro, ?_⟩
  refine List.forall_mem_cons.2 ⟨True.intro, ?_⟩
  refine List.forall_mem_cons.2 ⟨True.intro, ?_⟩
  refine List.forall_mem_cons.2 ⟨True.intro, ?_⟩
  refine List.forall_mem_cons.2 ⟨True.intro, ?_⟩
  refine List.forall_mem_cons.2 ⟨True.intro, ?_⟩
  refine List.forall_mem_cons.2 ⟨True.intro, ?_⟩
  refine List.forall_mem_cons.2 ⟨True.intro, ?_⟩
  refine List.forall_mem_cons.2 ⟨True.intro, ?_⟩
  refine List.forall_mem_cons.2 ⟨True.intro, ?_⟩
  refine List.forall_mem_cons.2 ⟨True.intro, ?_⟩
  refine List.forall_mem_cons.2 ⟨True.intro, ?_⟩
  refine List.forall_mem_cons.2 ⟨True.intro, ?_⟩
  refine List.forall_mem_cons.2 ⟨True.intro, ?_⟩
  refine List.forall_mem_cons.2 ⟨True.intro, ?_⟩
  refine List.forall_mem_cons.2 ⟨True.intro, ?_⟩
  refine List.forall_mem_cons.2 ⟨True.intro, ?_⟩
  refine List.forall_mem_cons.2 ⟨True.intro, ?_⟩
  refine List.forall_mem_cons.2 ⟨True.intro, ?_⟩
  refine List.forall_mem_cons.2 ⟨True.intro, ?_⟩
  refine List.forall_mem_cons.2 ⟨True.intro, ?_⟩
  refine List.forall_mem_cons.2 ⟨True.intro, ?_⟩
  refine List.forall_mem_cons.2 ⟨True.intro, ?_⟩
  refine List.forall_mem_cons.2 ⟨True.intro, ?_⟩
  refine List.forall_mem_cons.2 ⟨True.intro, ?_⟩
  refine List.forall_mem_cons.2 ⟨True.intro, ?_⟩
  refine List.forall_mem_cons.2 ⟨True.intro, ?_⟩
  refine List.forall_mem_cons.2 ⟨True.intro, ?_⟩
  refine List.forall_mem_cons.2 ⟨True.intro, ?_⟩
  refine List.forall_mem_cons.2 ⟨True.intro, ?_⟩
  refine List.forall_mem_cons.2 ⟨True.intro, ?_⟩
  refine List.forall_mem_cons.2 ⟨True.intro, ?_⟩
  refine List.forall_mem_cons.2 ⟨True.intro, ?_⟩
  refine List.forall_mem_cons.2 ⟨True.intro, ?_⟩
  refine List.forall_mem_cons.2 ⟨True.intro, ?_⟩
  refine List.forall_mem_cons.2 ⟨True.intro, ?_⟩
  refine List.forall_mem_cons.2 ⟨True.intro, ?_⟩
  refine List.forall_mem_cons.2 ⟨True.intro, ?_⟩
  refine List.forall_mem_cons.2 ⟨True.intro, ?_⟩
  refine List.forall_mem_cons.2 ⟨fun _ _ => rfl, ?_⟩
  refine List.forall_mem_cons.2 ⟨fun _ _ => rfl, ?_⟩
  refine List.forall_mem_cons.2 ⟨fun _ _ => rfl, ?_⟩
  refine List.forall_mem_cons.2 ⟨fun _ _ => rfl, ?_⟩
  refine List.forall_mem_cons.2 ⟨fun _ _ => rfl, ?_⟩
  refine List.forall_mem_cons.2 ⟨fun _ _ => rfl, ?_⟩
  refine List.forall_mem_cons.2 ⟨fun _ _ => rfl, ?_⟩
  refine List.forall_mem_cons.2 ⟨fun _ _ => rfl, ?_⟩
  refine List.forall_mem_cons.2 ⟨fun _ _ => rfl, ?_⟩
  refine List.forall_mem_cons.2 ⟨fun _ _ => rfl, ?_⟩
  intro p hp
  cases hp)
theorem E10b_ok : ∀ f e, E10b f = some e → ∀ N, FnOK Try.prog OD f (entF N e) := look_ok (P := Try.prog) (O := OD) (l := L10b) (by
  unfold L10b
  refine List.forall_mem_cons.2 ⟨fun N => ent_bc N f_mfRight, ?_⟩
  refine List.forall_mem_cons.2 ⟨fun N => ent_bc N f_hasI, ?_⟩
  refine List.forall_mem_cons.2 ⟨fun N => ent_bc N f_idxI, ?_⟩
  refine List.forall_mem_cons.2 ⟨fun N => ent_bc N f_concatI, ?_⟩
  refine List.forall_mem_cons.2 ⟨fun N => ent_bc N f_growI, ?_⟩
  refine List.forall_mem_cons.2 ⟨fun N => ent_bc N f_octPut, ?_⟩
  refine List.forall_mem_cons.2 ⟨fun N => ent_bc N f_clone, ?_⟩
  refine List.forall_mem_cons.2 ⟨fun N => ent_bc N f_mfEncode, ?_⟩
  refine List.forall_mem_cons.2 ⟨fun N => ent_bc N f_octGet, ?_⟩
  refine List.forall_mem_cons.2 ⟨fun N => ent_bc N f_cloneI, ?_⟩
  refine List.forall_mem_cons.2 ⟨fun N => ent_bc N f_mfDecode, ?_⟩
  refine List.forall_mem_cons.2 ⟨fun N => ent_bc N f_frPut, ?_⟩
  refine List.forall_mem_cons.2 ⟨fun N => ent_bc N f_frAll, ?_⟩
  refine List.forall_mem_cons.2 ⟨fun N => ent_bc N f_frLength, ?_⟩
  refine List.forall_mem_cons.2 ⟨fun N => ent_bc N f_mfWrite, ?_⟩
  refine List.forall_mem_cons.2 ⟨fun N => ent_bc N f_mfRead, ?_⟩
  refine List.forall_mem_cons.2 ⟨fun N => ent_bc N f_ref4Num, ?_⟩
  refine List.forall_mem_cons.2 ⟨fun N => ent_bc N f_ref2Get, ?_⟩
  refine List.forall_mem_cons.2 ⟨fun N => ent_bc N f_ref10May, ?_⟩
  refine List.forall_mem_cons.2 ⟨fun N => ent_bc N f_ref10Decode, ?_⟩
  refine List.forall_mem_cons.2 ⟨fun N => ent_bc N f_ref2Put, ?_⟩
  refine List.forall_mem_cons.2 ⟨fun N => ent_bc N f_ref10Encode, ?_⟩
  refine List.forall_mem_cons.2 ⟨fun N => ent_bc N f_mfFresh, ?_⟩
  refine List.forall_mem_cons.2 ⟨fun N => ent_bc N f_mfOn, ?_⟩
  refine List.forall_mem_cons.2 ⟨fun N => ent_bc N f_sameI, ?_⟩
  refine List.forall_mem_cons.2 ⟨fun N => ent_bc N f_mfSame, ?_⟩
  refine List.forall_mem_cons.2 ⟨fun N => ent_bc N f_mfEncodes, ?_⟩
  refine List.forall_mem_cons.2 ⟨fun N => ent_bc N f_mfDecodes, ?_⟩
  refine List.forall_mem_cons.2 ⟨fun N => ent_bc N f_Within, ?_⟩
  refine List.forall_mem_cons.2 ⟨fun N => ent_bc N f_mfMade, ?_⟩
  refine List.forall_mem_cons.2 ⟨fun N => ent_bc N f_keepCut, ?_⟩
  refine List.forall_mem_cons.2 ⟨fun N => ent_bc N f_ref4Put, ?_⟩
  refine List.forall_mem_cons.2 ⟨fun N => ent_bc N f_ref4All, ?_⟩
  refine List.forall_mem_cons.2 ⟨fun N => ent_bc N f_mfDigits, ?_⟩
  refine List.forall_mem_cons.2 ⟨fun N => ent_bc N f_mfTable, ?_⟩
  refine List.forall_mem_cons.2 ⟨fun N => ent_bc N f_mfWal, ?_⟩
  refine List.forall_mem_cons.2 ⟨fun N => ent_bc N f_ref1Whole, ?_⟩
  refine List.forall_mem_cons.2 ⟨fun N => ent_bc N f_ref1parts, ?_⟩
  refine List.forall_mem_cons.2 ⟨fun N => ent_bc N f_ManifestReads, ?_⟩
  refine List.forall_mem_cons.2 ⟨fun _ => new_n, ?_⟩
  refine List.forall_mem_cons.2 ⟨fun _ => create_n, ?_⟩
  refine List.forall_mem_cons.2 ⟨fun _ => sync_n, ?_⟩
  refine List.forall_mem_cons.2 ⟨fun _ => append_n, ?_⟩
  refine List.forall_mem_cons.2 ⟨fun _ => rename_n, ?_⟩
  refine List.forall_mem_cons.2 ⟨fun _ => read_n, ?_⟩
  refine List.forall_mem_cons.2 ⟨fun _ => names_n, ?_⟩
  refine List.forall_mem_cons.2 ⟨fun _ => arm_n, ?_⟩
  refine List.forall_mem_cons.2 ⟨fun _ => crash_n, ?_⟩
  refine List.forall_mem_cons.2 ⟨fun _ => true_n (by kernel_rfl) Kn10.walk, ?_⟩
  intro p hp
  cases hp)
theorem v10b : MfV E10b where
  right := rfl
  has := rfl
  idx := rfl
  concat := rfl
  grow := rfl
  put := rfl
  clone := rfl
  encode := rfl
  get := rfl
  cloneI := rfl
  decode := rfl
  frPut := rfl
  frAll := rfl
  frLength := rfl
  create := rfl
  sync := rfl
  append := rfl
  rename := rfl
  dread := rfl
  write := rfl
  read := rfl
  num := rfl
  rget := rfl
  may := rfl
  dec := rfl
  rput := rfl
  enc := rfl
  new := rfl
  fresh := rfl
  on := rfl
  sameI := rfl
  same := rfl
  encodes := rfl
  decodes := rfl
  within := rfl
  made := rfl
  cut := rfl
  r4put := rfl
  r4all := rfl
  known := rfl
  digits := rfl
  table := rfl
  mwal := rfl
  whole := rfl
  parts := rfl
  names := rfl
  arm := rfl
  crash := rfl
end Am
end Go.Proofs.Ythgcdoahoechhaa
