/- The functions that a law of layer 23 reaches, in one table. -/
import Derived.Test.YtkgplkddpigagaaLaL
import Derived.Test.YtkgplkddpigagaaSoN
import Derived.Test.YtkgplkddpigagaaKn23c
import Derived.KernelRfl
set_option linter.unusedVariables false
set_option linter.unusedSimpArgs false
namespace Go.Proofs.Ytkgplkddpigagaa
namespace Am
open Go.RowKit
set_option maxRecDepth 1000000
theorem f_ratSize : bfOf Try.prog (drOf Try.prog) 79 b_ratSize.keep = some b_ratSize := by kernel_rfl
theorem f_ratCommon : bfOf Try.prog (drOf Try.prog) 80 b_ratCommon.keep = some b_ratCommon := by kernel_rfl
theorem f_ratNew : bfOf Try.prog (drOf Try.prog) 51 b_ratNew.keep = some b_ratNew := by kernel_rfl
theorem f_ratOf : bfOf Try.prog (drOf Try.prog) 43 b_ratOf.keep = some b_ratOf := by kernel_rfl
theorem f_ratRight : bfOf Try.prog (drOf Try.prog) 39 b_ratRight.keep = some b_ratRight := by kernel_rfl
theorem f_ratExact : bfOf Try.prog (drOf Try.prog) 63 b_ratExact.keep = some b_ratExact := by kernel_rfl
theorem f_ratBoth : bfOf Try.prog (drOf Try.prog) 78 b_ratBoth.keep = some b_ratBoth := by kernel_rfl
theorem f_ratAdd : bfOf Try.prog (drOf Try.prog) 53 b_ratAdd.keep = some b_ratAdd := by kernel_rfl
theorem f_ratAdd1 : bfOf Try.prog (drOf Try.prog) 82 b_ratAdd1.keep = some b_ratAdd1 := by kernel_rfl
theorem f_ratSub : bfOf Try.prog (drOf Try.prog) 50 b_ratSub.keep = some b_ratSub := by kernel_rfl
theorem f_ratSub1 : bfOf Try.prog (drOf Try.prog) 77 b_ratSub1.keep = some b_ratSub1 := by kernel_rfl
theorem f_ratMul : bfOf Try.prog (drOf Try.prog) 52 b_ratMul.keep = some b_ratMul := by kernel_rfl
theorem f_ratMul1 : bfOf Try.prog (drOf Try.prog) 81 b_ratMul1.keep = some b_ratMul1 := by kernel_rfl
theorem f_ratDiv : bfOf Try.prog (drOf Try.prog) 44 b_ratDiv.keep = some b_ratDiv := by kernel_rfl
theorem f_ratDiv1 : bfOf Try.prog (drOf Try.prog) 64 b_ratDiv1.keep = some b_ratDiv1 := by kernel_rfl
theorem f_ratDiv2 : bfOf Try.prog (drOf Try.prog) 65 b_ratDiv2.keep = some b_ratDiv2 := by kernel_rfl
theorem f_ratCmp : bfOf Try.prog (drOf Try.prog) 59 b_ratCmp.keep = some b_ratCmp := by kernel_rfl
theorem f_downRight : bfOf Try.prog (drOf Try.prog) 25 b_downRight.keep = some b_downRight := by kernel_rfl
theorem f_lerpPlace : bfOf Try.prog (drOf Try.prog) 32 b_lerpPlace.keep = some b_lerpPlace := by kernel_rfl
theorem f_lerpBetween : bfOf Try.prog (drOf Try.prog) 33 b_lerpBetween.keep = some b_lerpBetween := by kernel_rfl
theorem f_lerpAt : bfOf Try.prog (drOf Try.prog) 16 b_lerpAt.keep = some b_lerpAt := by kernel_rfl
theorem f_foldRight : bfOf Try.prog (drOf Try.prog) 22 b_foldRight.keep = some b_foldRight := by kernel_rfl
theorem f_foldSteps : bfOf Try.prog (drOf Try.prog) 42 b_foldSteps.keep = some b_foldSteps := by kernel_rfl
theorem f_foldSteps1 : bfOf Try.prog (drOf Try.prog) 56 b_foldSteps1.keep = some b_foldSteps1 := by kernel_rfl
theorem f_foldSteps11 : bfOf Try.prog (drOf Try.prog) 57 b_foldSteps11.keep = some b_foldSteps11 := by kernel_rfl
theorem f_foldSteps2 : bfOf Try.prog (drOf Try.prog) 58 b_foldSteps2.keep = some b_foldSteps2 := by kernel_rfl
theorem f_foldSteps3 : bfOf Try.prog (drOf Try.prog) 60 b_foldSteps3.keep = some b_foldSteps3 := by kernel_rfl
theorem f_foldSteps4 : bfOf Try.prog (drOf Try.prog) 61 b_foldSteps4.keep = some b_foldSteps4 := by kernel_rfl
theorem f_foldSteps5 : bfOf Try.prog (drOf Try.prog) 62 b_foldSteps5.keep = some b_foldSteps5 := by kernel_rfl
theorem f_foldDo1 : bfOf Try.prog (drOf Try.prog) 41 b_foldDo1.keep = some b_foldDo1 := by kernel_rfl
theorem f_hasRats : bfOf Try.prog (drOf Try.prog) 40 b_hasRats.keep = some b_hasRats := by kernel_rfl
theorem f_idxRats : bfOf Try.prog (drOf Try.prog) 55 b_idxRats.keep = some b_idxRats := by kernel_rfl
theorem f_foldDo : bfOf Try.prog (drOf Try.prog) 27 b_foldDo.keep = some b_foldDo := by kernel_rfl
theorem f_aggAt : bfOf Try.prog (drOf Try.prog) 26 b_aggAt.keep = some b_aggAt := by kernel_rfl
theorem f_aggDo1 : bfOf Try.prog (drOf Try.prog) 24 b_aggDo1.keep = some b_aggDo1 := by kernel_rfl
theorem f_hasSeries : bfOf Try.prog (drOf Try.prog) 23 b_hasSeries.keep = some b_hasSeries := by kernel_rfl
theorem f_idxSeries : bfOf Try.prog (drOf Try.prog) 38 b_idxSeries.keep = some b_idxSeries := by kernel_rfl
theorem f_compactI64 : bfOf Try.prog (drOf Try.prog) 31 b_compactI64.keep = some b_compactI64 := by kernel_rfl
theorem f_aggTimes : bfOf Try.prog (drOf Try.prog) 15 b_aggTimes.keep = some b_aggTimes := by kernel_rfl
theorem f_aggDo : bfOf Try.prog (drOf Try.prog) 12 b_aggDo.keep = some b_aggDo := by kernel_rfl
theorem f_Within : bfOf Try.prog (drOf Try.prog) 8 b_Within.keep = some b_Within := by kernel_rfl
theorem f_keepRat : bfOf Try.prog (drOf Try.prog) 21 b_keepRat.keep = some b_keepRat := by kernel_rfl
theorem f_keepSamples : bfOf Try.prog (drOf Try.prog) 11 b_keepSamples.keep = some b_keepSamples := by kernel_rfl
theorem f_ref21Same : bfOf Try.prog (drOf Try.prog) 13 b_ref21Same.keep = some b_ref21Same := by kernel_rfl
theorem f_ref1gcd : bfOf Try.prog (drOf Try.prog) 45 b_ref1gcd.keep = some b_ref1gcd := by kernel_rfl
theorem f_ref1abs : bfOf Try.prog (drOf Try.prog) 46 b_ref1abs.keep = some b_ref1abs := by kernel_rfl
theorem f_ref1Right : bfOf Try.prog (drOf Try.prog) 28 b_ref1Right.keep = some b_ref1Right := by kernel_rfl
theorem f_ref1parts : bfOf Try.prog (drOf Try.prog) 47 b_ref1parts.keep = some b_ref1parts := by kernel_rfl
theorem f_ref1New : bfOf Try.prog (drOf Try.prog) 29 b_ref1New.keep = some b_ref1New := by kernel_rfl
theorem f_ref1Op : bfOf Try.prog (drOf Try.prog) 14 b_ref1Op.keep = some b_ref1Op := by kernel_rfl
theorem f_ref1Cmp : bfOf Try.prog (drOf Try.prog) 17 b_ref1Cmp.keep = some b_ref1Cmp := by kernel_rfl
theorem f_w23made : bfOf Try.prog (drOf Try.prog) 7 b_w23made.keep = some b_w23made := by kernel_rfl
theorem f_ref20Right : bfOf Try.prog (drOf Try.prog) 34 b_ref20Right.keep = some b_ref20Right := by kernel_rfl
theorem f_ref20Do : bfOf Try.prog (drOf Try.prog) 37 b_ref20Do.keep = some b_ref20Do := by kernel_rfl
theorem f_ref21Right : bfOf Try.prog (drOf Try.prog) 35 b_ref21Right.keep = some b_ref21Right := by kernel_rfl
theorem f_ref21Between : bfOf Try.prog (drOf Try.prog) 54 b_ref21Between.keep = some b_ref21Between := by kernel_rfl
theorem f_ref21At : bfOf Try.prog (drOf Try.prog) 36 b_ref21At.keep = some b_ref21At := by kernel_rfl
theorem f_ref21Times : bfOf Try.prog (drOf Try.prog) 20 b_ref21Times.keep = some b_ref21Times := by kernel_rfl
theorem f_ref21Agg : bfOf Try.prog (drOf Try.prog) 18 b_ref21Agg.keep = some b_ref21Agg := by kernel_rfl
theorem f_sameI64 : bfOf Try.prog (drOf Try.prog) 19 b_sameI64.keep = some b_sameI64 := by kernel_rfl
theorem f_w23same : bfOf Try.prog (drOf Try.prog) 9 b_w23same.keep = some b_w23same := by kernel_rfl
theorem f_AggTells : bfOf Try.prog (drOf Try.prog) 3 b_AggTells.keep = some b_AggTells := by kernel_rfl
noncomputable def L23l : List (Nat × Ent Empty) := [(79, .bc b_ratSize), (80, .bc b_ratCommon), (51, .bc b_ratNew), (43, .bc b_ratOf), (39, .bc b_ratRight), (63, .bc b_ratExact), (78, .bc b_ratBoth), (53, .bc b_ratAdd), (82, .bc b_ratAdd1), (50, .bc b_ratSub), (77, .bc b_ratSub1), (52, .bc b_ratMul), (81, .bc b_ratMul1), (44, .bc b_ratDiv), (64, .bc b_ratDiv1), (65, .bc b_ratDiv2), (59, .bc b_ratCmp), (25, .bc b_downRight), (32, .bc b_lerpPlace), (33, .bc b_lerpBetween), (16, .bc b_lerpAt), (22, .bc b_foldRight), (42, .bc b_foldSteps), (56, .bc b_foldSteps1), (57, .bc b_foldSteps11), (58, .bc b_foldSteps2), (60, .bc b_foldSteps3), (61, .bc b_foldSteps4), (62, .bc b_foldSteps5), (41, .bc b_foldDo1), (40, .bc b_hasRats), (55, .bc b_idxRats), (27, .bc b_foldDo), (26, .bc b_aggAt), (24, .bc b_aggDo1), (23, .bc b_hasSeries), (38, .bc b_idxSeries), (31, .bc b_compactI64), (15, .bc b_aggTimes), (12, .bc b_aggDo), (8, .bc b_Within), (21, .bc b_keepRat), (11, .bc b_keepSamples), (13, .bc b_ref21Same), (45, .bc b_ref1gcd), (46, .bc b_ref1abs), (28, .bc b_ref1Right), (47, .bc b_ref1parts), (29, .bc b_ref1New), (14, .bc b_ref1Op), (17, .bc b_ref1Cmp), (7, .bc b_w23made), (34, .bc b_ref20Right), (37, .bc b_ref20Do), (35, .bc b_ref21Right), (54, .bc b_ref21Between), (36, .bc b_ref21At), (20, .bc b_ref21Times), (18, .bc b_ref21Agg), (19, .bc b_sameI64), (9, .bc b_w23same), (3, .bc b_AggTells), (30, .nat n_sorti), (10, .nat n_true)]
noncomputable def E23l : Nat → Option (Ent Empty) := look L23l
theorem E23l_plain : ∀ f e, E23l f = some e → e.plain := look_plain (l := L23l) (by
  unfold L23l
  refine List.forall_mem_cons.2 ⟨True.intro, ?_⟩
  refine List.forall_mem_cons.2 ⟨True.intro, ?_⟩
  refine List.forall_mem_cons.2 ⟨True.intro, ?_⟩
  refine List.forall_mem_cons.2 ⟨True.intro, ?_⟩
  refine List.forall_mem_cons.2 ⟨True.intro, ?_⟩
  refine List.forall_mem_cons.2 ⟨True.intro, ?_⟩
  refine List.forall_mem_cons.2 ⟨True.intro, ?_⟩
  refine List.forall_mem_cons.2 ⟨True.intro, ?_⟩
  refine List.forall_mem_cons.2 ⟨True.intro, ?_⟩
  refine List.forall_mem_cons.2 ⟨True.intro, ?_⟩
  refine List.forall_mem_cons.2 ⟨True.intro, ?_⟩
  refine List.forall_mem_cons.2 ⟨True.intro, ?_⟩
  refine List.forall_mem_cons.2 ⟨True.intro, ?_⟩
  refine List.forall_mem_cons.2 ⟨True.intro, ?_⟩
  refine List.forall_mem_cons.2 ⟨True.intro, ?_⟩
  refine List.forall_mem_cons.2 ⟨True.intro, ?_⟩
  refine List.forall_mem_cons.2 ⟨True.intro, ?_⟩
  refine List.forall_mem_cons.2 ⟨True.intro, ?_⟩
  refine List.forall_mem_cons.2 ⟨True.intro, ?_⟩
  refine List.forall_mem_cons.2 ⟨True.intro, ?_⟩
  refine List.forall_mem_cons.2 ⟨True.intro, ?_⟩
  refine List.forall_mem_cons.2 ⟨True.intro, ?_⟩
  refine List.forall_mem_cons.2 ⟨True.intro, ?_⟩
  refine List.forall_mem_cons.2 ⟨True.intro, ?_⟩
  refine List.forall_mem_cons.2 ⟨True.intro, ?_⟩
  refine List.forall_mem_cons.2 ⟨True.intro, ?_⟩
  refine List.forall_mem_cons.2 ⟨True.intro, ?_⟩
  refine List.forall_mem_cons.2 ⟨True.intro, ?_⟩
  refine List.forall_mem_cons.2 ⟨True.intro, ?_⟩
  refine List.forall_mem_cons.2 ⟨True.intro, ?_⟩
  refine List.forall_mem_cons.2 ⟨True.intro, ?_⟩
  refine List.forall_mem_cons.2 ⟨True.intro, ?_⟩
  refine List.forall_mem_cons.2 ⟨True.intro, ?_⟩
  refine List.forall_mem_cons.2 ⟨True.intro, ?_⟩
  refine List.forall_mem_cons.2 ⟨True.intro, ?_⟩
  refine List.forall_mem_cons.2 ⟨True.intro, ?_⟩
  refine List.forall_mem_cons.2 ⟨True.intro, ?_⟩
  refine List.forall_mem_cons.2 ⟨True.intro, ?_⟩
  refine List.forall_mem_cons.2 ⟨True.intro, ?_⟩
  refine List.forall_mem_cons.2 ⟨True.intro, ?_⟩
  refine List.forall_mem_cons.2 ⟨True.intro, ?_⟩
  refine List.forall_mem_cons.2 ⟨True.intro, ?_⟩
  refine List.forall_mem_cons.2 ⟨True.intro, ?_⟩
  refine List.forall_mem_cons.2 ⟨True.intro, ?_⟩
  refine List.forall_mem_cons.2 ⟨True.intro, ?_⟩
  refine List.forall_mem_cons.2 ⟨True.intro, ?_⟩
  refine List.forall_mem_cons.2 ⟨True.intro, ?_⟩
  refine List.forall_mem_cons.2 ⟨True.intro, ?_⟩
  refine List.forall_mem_cons.2 ⟨True.intro, ?_⟩
  refine List.forall_mem_cons.2 ⟨True.intro, ?_⟩
  refine List.forall_mem_cons.2 ⟨True.intro, ?_⟩
  refine List.forall_mem_cons.2 ⟨True.intro, ?_⟩
  refine List.forall_mem_cons.2 ⟨True.intro, ?_⟩
  refine List.forall_mem_cons.2 ⟨True.intro, ?_⟩
  refine List.forall_mem_cons.2 ⟨True.intro, ?_⟩
  refine List.forall_mem_cons.2 ⟨True.intro, ?_⟩
  refine List.forall_mem_cons.2 ⟨True.intro, ?_⟩
  refine List.forall_mem_cons.2 ⟨True.intro, ?_⟩
  refine List.forall_mem_cons.2 ⟨True.intro, ?_⟩
  refine List.forall_mem_cons.2 ⟨True.intro, ?_⟩
  refine List.forall_mem_cons.2 ⟨True.intro, ?_⟩
  refine List.forall_mem_cons.2 ⟨True.intro, ?_⟩
  refine List.forall_mem_cons.2 ⟨fun _ _ => rfl, ?_⟩
  refine List.forall_mem_cons.2 ⟨fun _ _ => rfl, ?_⟩
  intro p hp
  cases hp)
theorem E23l_ok : ∀ f e, E23l f = some e → ∀ N, FnOK Try.prog O0 f (entF N e) := look_ok (P := Try.prog) (O := O0) (l := L23l) (by
  unfold L23l
  refine List.forall_mem_cons.2 ⟨fun N => ent_bc N f_ratSize, ?_⟩
  refine List.forall_mem_cons.2 ⟨fun N => ent_bc N f_ratCommon, ?_⟩
  refine List.forall_mem_cons.2 ⟨fun N => ent_bc N f_ratNew, ?_⟩
  refine List.forall_mem_cons.2 ⟨fun N => ent_bc N f_ratOf, ?_⟩
  refine List.forall_mem_cons.2 ⟨fun N => ent_bc N f_ratRight, ?_⟩
  refine List.forall_mem_cons.2 ⟨fun N => ent_bc N f_ratExact, ?_⟩
  refine List.forall_mem_cons.2 ⟨fun N => ent_bc N f_ratBoth, ?_⟩
  refine List.forall_mem_cons.2 ⟨fun N => ent_bc N f_ratAdd, ?_⟩
  refine List.forall_mem_cons.2 ⟨fun N => ent_bc N f_ratAdd1, ?_⟩
  refine List.forall_mem_cons.2 ⟨fun N => ent_bc N f_ratSub, ?_⟩
  refine List.forall_mem_cons.2 ⟨fun N => ent_bc N f_ratSub1, ?_⟩
  refine List.forall_mem_cons.2 ⟨fun N => ent_bc N f_ratMul, ?_⟩
  refine List.forall_mem_cons.2 ⟨fun N => ent_bc N f_ratMul1, ?_⟩
  refine List.forall_mem_cons.2 ⟨fun N => ent_bc N f_ratDiv, ?_⟩
  refine List.forall_mem_cons.2 ⟨fun N => ent_bc N f_ratDiv1, ?_⟩
  refine List.forall_mem_cons.2 ⟨fun N => ent_bc N f_ratDiv2, ?_⟩
  refine List.forall_mem_cons.2 ⟨fun N => ent_bc N f_ratCmp, ?_⟩
  refine List.forall_mem_cons.2 ⟨fun N => ent_bc N f_downRight, ?_⟩
  refine List.forall_mem_cons.2 ⟨fun N => ent_bc N f_lerpPlace, ?_⟩
  refine List.forall_mem_cons.2 ⟨fun N => ent_bc N f_lerpBetween, ?_⟩
  refine List.forall_mem_cons.2 ⟨fun N => ent_bc N f_lerpAt, ?_⟩
  refine List.forall_mem_cons.2 ⟨fun N => ent_bc N f_foldRight, ?_⟩
  refine List.forall_mem_cons.2 ⟨fun N => ent_bc N f_foldSteps, ?_⟩
  refine List.forall_mem_cons.2 ⟨fun N => ent_bc N f_foldSteps1, ?_⟩
  refine List.forall_mem_cons.2 ⟨fun N => ent_bc N f_foldSteps11, ?_⟩
  refine List.forall_mem_cons.2 ⟨fun N => ent_bc N f_foldSteps2, ?_⟩
  refine List.forall_mem_cons.2 ⟨fun N => ent_bc N f_foldSteps3, ?_⟩
  refine List.forall_mem_cons.2 ⟨fun N => ent_bc N f_foldSteps4, ?_⟩
  refine List.forall_mem_cons.2 ⟨fun N => ent_bc N f_foldSteps5, ?_⟩
  refine List.forall_mem_cons.2 ⟨fun N => ent_bc N f_foldDo1, ?_⟩
  refine List.forall_mem_cons.2 ⟨fun N => ent_bc N f_hasRats, ?_⟩
  refine List.forall_mem_cons.2 ⟨fun N => ent_bc N f_idxRats, ?_⟩
  refine List.forall_mem_cons.2 ⟨fun N => ent_bc N f_foldDo, ?_⟩
  refine List.forall_mem_cons.2 ⟨fun N => ent_bc N f_aggAt, ?_⟩
  refine List.forall_mem_cons.2 ⟨fun N => ent_bc N f_aggDo1, ?_⟩
  refine List.forall_mem_cons.2 ⟨fun N => ent_bc N f_hasSeries, ?_⟩
  refine List.forall_mem_cons.2 ⟨fun N => ent_bc N f_idxSeries, ?_⟩
  refine List.forall_mem_cons.2 ⟨fun N => ent_bc N f_compactI64, ?_⟩
  refine List.forall_mem_cons.2 ⟨fun N => ent_bc N f_aggTimes, ?_⟩
  refine List.forall_mem_cons.2 ⟨fun N => ent_bc N f_aggDo, ?_⟩
  refine List.forall_mem_cons.2 ⟨fun N => ent_bc N f_Within, ?_⟩
  refine List.forall_mem_cons.2 ⟨fun N => ent_bc N f_keepRat, ?_⟩
  refine List.forall_mem_cons.2 ⟨fun N => ent_bc N f_keepSamples, ?_⟩
  refine List.forall_mem_cons.2 ⟨fun N => ent_bc N f_ref21Same, ?_⟩
  refine List.forall_mem_cons.2 ⟨fun N => ent_bc N f_ref1gcd, ?_⟩
  refine List.forall_mem_cons.2 ⟨fun N => ent_bc N f_ref1abs, ?_⟩
  refine List.forall_mem_cons.2 ⟨fun N => ent_bc N f_ref1Right, ?_⟩
  refine List.forall_mem_cons.2 ⟨fun N => ent_bc N f_ref1parts, ?_⟩
  refine List.forall_mem_cons.2 ⟨fun N => ent_bc N f_ref1New, ?_⟩
  refine List.forall_mem_cons.2 ⟨fun N => ent_bc N f_ref1Op, ?_⟩
  refine List.forall_mem_cons.2 ⟨fun N => ent_bc N f_ref1Cmp, ?_⟩
  refine List.forall_mem_cons.2 ⟨fun N => ent_bc N f_w23made, ?_⟩
  refine List.forall_mem_cons.2 ⟨fun N => ent_bc N f_ref20Right, ?_⟩
  refine List.forall_mem_cons.2 ⟨fun N => ent_bc N f_ref20Do, ?_⟩
  refine List.forall_mem_cons.2 ⟨fun N => ent_bc N f_ref21Right, ?_⟩
  refine List.forall_mem_cons.2 ⟨fun N => ent_bc N f_ref21Between, ?_⟩
  refine List.forall_mem_cons.2 ⟨fun N => ent_bc N f_ref21At, ?_⟩
  refine List.forall_mem_cons.2 ⟨fun N => ent_bc N f_ref21Times, ?_⟩
  refine List.forall_mem_cons.2 ⟨fun N => ent_bc N f_ref21Agg, ?_⟩
  refine List.forall_mem_cons.2 ⟨fun N => ent_bc N f_sameI64, ?_⟩
  refine List.forall_mem_cons.2 ⟨fun N => ent_bc N f_w23same, ?_⟩
  refine List.forall_mem_cons.2 ⟨fun N => ent_bc N f_AggTells, ?_⟩
  refine List.forall_mem_cons.2 ⟨fun _ => sorti_n, ?_⟩
  refine List.forall_mem_cons.2 ⟨fun _ => true_n (by kernel_rfl) Kn23.walk, ?_⟩
  intro p hp
  cases hp)
theorem q23l : QaW E23l where
  size := rfl
  common := rfl
  new := rfl
  of := rfl
  right := rfl
  exact_ := rfl
  both := rfl
  add := rfl
  add1 := rfl
  sub := rfl
  sub1 := rfl
  mul := rfl
  mul1 := rfl
  div := rfl
  div1 := rfl
  div2 := rfl
  cmp := rfl
  fright := rfl
  steps := rfl
  steps1 := rfl
  steps11 := rfl
  steps2 := rfl
  steps3 := rfl
  steps4 := rfl
  steps5 := rfl
  fdo1 := rfl
  hasR := rfl
  idxR := rfl
  dright := rfl
  place := rfl
  between := rfl
  lat := rfl
  fdo := rfl
  aat := rfl
  ado1 := rfl
  hasS := rfl
  idxS := rfl
  times := rfl
  compact := rfl
  sort := rfl
  ado := rfl
  q := { within := rfl, rat := rfl, samples := rfl, same := rfl }
  r := { gcd := rfl, abs := rfl, right := rfl, parts := rfl, new := rfl, op := rfl }
  known := rfl
theorem qe23l : QeT E23l where
  r := q23l.r
  cmp := rfl
  right := rfl
  fdo := rfl
  sright := rfl
  between := rfl
  at' := rfl
  times := rfl
  agg := rfl
theorem qf23l : QfT E23l := ⟨q23l, qe23l, rfl, rfl, rfl⟩
end Am
end Go.Proofs.Ytkgplkddpigagaa
