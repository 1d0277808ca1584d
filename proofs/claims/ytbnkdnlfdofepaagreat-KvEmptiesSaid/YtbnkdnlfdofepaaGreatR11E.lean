/- KvEmpties: for every input the law is true and each argument reads as it read; no condition. -/
import Derived.Test.YtbnkdnlfdofepaaGreatRows
import Derived.Test.YtbnkdnlfdofepaaGreatTab11e
set_option linter.unusedVariables false
set_option linter.unusedSimpArgs false
namespace Go.Proofs.YtbnkdnlfdofepaaGreat
open Go.ChangeShapes Go.WideShapes Go.ChangeAt Go.RowKit
theorem A8:ownKnob Tryz.prog.godebug=none:=by kernel_rfl
theorem Ai:laidOutB Tryz.prog=true:=by kernel_rfl
theorem kvEmpties_cells:Tryz.prog.cellsOf 5=1:=by kernel_rfl
theorem kvEmpties_bytes:Tryz.prog.bytesOf 5=1:=by kernel_rfl
theorem kvEmpties_cellsI:Tryz.prog.cellsOf 3=1:=by kernel_rfl
theorem Ba:∀t∈Tryz.f10.params.toList,Tryz.prog.readableRec t=true/\t < Tryz.prog.types.size:=by
 have h:Tryz.f10.params.toList.all (fun t=>Tryz.prog.readableRec t && decide (t < Tryz.prog.types.size))=true:=by kernel_rfl
 intro t ht
 have:=List.all_eq_true.1 h t ht
 simpa using this
set_option maxRecDepth 100000 in
theorem xB (os:Os) (started:os.Started) (H:Type) (enc:TypeId×Value->H):
  ReturnsInHanded {} Tryz.checked os 10 .any (Rows.kvEmptiesSpec.pre6 enc Tryz.prog Tryz.f10 Rows.kvEmptiesRow.domain false) (Rows.kvEmptiesSpec.post enc Tryz.prog Tryz.f10 false true false false):=by
 refine returnsInHanded_of_change (C:=Tryz.checked) A8 started (by kernel_rfl) Tryz.func10
  (ChangeSpec.witness6 (enc:=enc) (C:=Tryz.checked) false ⟨#[], #[.slice none 0 0, .bool false],[]⟩ 8 (by kernel_rfl) (by kernel_rfl) (by kernel_rfl) (by kernel_rfl)) ?_
 intro W base args ds gs before hval0 hW hcnd _
 have hval:∀(j:Nat) t v,Tryz.f10.params[j]?=some t->args[j]?=some v->Value.okWide Tryz.prog W .any base t v:=hval0
 have hW':=hW
 obtain ⟨p,q,hA0,hV,rfl,hfz,hnd⟩:=hW
 have hA:DataW.TrodAll enc Tryz.prog W 0 (fun _=>true) true Tryz.f10.params.toList args.toList ds p:=hA0
 rw [Tryz.params10] at hA hval
 obtain ⟨v0,l0,d0,ds0,p0,q0,g0,e0,f0,h0,r0⟩:=trodAll_cons hA
 obtain ⟨v1,l1,d1,ds1,p1,q1,g1,e1,f1,h1,r1⟩:=trodAll_cons r0
 obtain ⟨gz,ez,fz⟩:=trodAll_nil r1
 subst gz ez fz
 subst g1 e1 f1
 obtain rfl:args= #[v0,v1]:=by cases args;simp_all
 subst e0 f0
 obtain ⟨rfl,rfl⟩:=trodVars_none hV
 have I0:=Am.abV Am.OD W
 have O0:=Am.open_entries (hval 0 _ v0 rfl rfl) h0
 obtain ⟨b0,m0,hp0,x0,I1,X0,K0,V0,R0⟩:=O0.out I0
 obtain ⟨k1,rfl,rfl,rfl⟩:=open_bool Tryz.underlying4 (hval 1 _ v1 rfl rfl) h1
 obtain ⟨φ,sr⟩:=I1.sr
 refine (Am.V6 Am.XI sr (Am.oC V0 (Am.oC Am.LH Am.Ez)) (Am.Fj Am.KP Am.acL rfl R0.e R0.len k1)).mono fun e W' ⟨he,hw⟩=> ?_
 exact ⟨_,he,QZ Ai Ba rfl rfl Tryz.underlying4 rfl hW' hw⟩
theorem KvEmpties_holds:Rows.KvEmptiesSaid:=
 OpenClaim.holds_of_wide 10 Tryz.f10 rfl rfl rfl rfl rfl rfl rfl ⟨rfl,rfl,rfl,rfl,rfl⟩ rfl rfl rfl rfl rfl (by kernel_rfl) Tryz.func10 (by kernel_rfl)
  (of_decide_eq_true (by kernel_rfl)) (by unfold Func.isWrapper;first|(rw [if_pos (by decide+kernel)];kernel_rfl)|(rw [if_neg (by decide+kernel)];exact ⟨rfl,rfl⟩))
  (fun os started H enc _=>xB os started H enc)
end Go.Proofs.YtbnkdnlfdofepaaGreat
