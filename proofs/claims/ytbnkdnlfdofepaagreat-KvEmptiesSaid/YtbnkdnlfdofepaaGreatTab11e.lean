/- The functions that the laws of a layer reach, in one table. -/
import Derived.Test.YtbnkdnlfdofepaaGreatKwL
import Derived.Test.YtbnkdnlfdofepaaGreatMZ
import Derived.Test.YtbnkdnlfdofepaaGreatXH
import Derived.Test.YtbnkdnlfdofepaaGreatMH
import Derived.KernelRfl
set_option linter.unusedVariables false
set_option linter.unusedSimpArgs false
namespace Go.Proofs.YtbnkdnlfdofepaaGreat
namespace Am
open Go.RowKit
set_option maxRecDepth 1000000
theorem Fz:bfOf Tryz.prog (drOf Tryz.prog) 10 kM.keep=some kM:=by kernel_rfl
noncomputable def UW:List (Nat×Ent MD):=[(147, .bc iq),(112, .bc dD),(110, .bc jo),(72, .bc ku),(78, .bc kC),(109, .bc gY),(67, .bc kD),(90, .bc gZ),(79, .bc kE),(151, .bc fH),(150, .bc rM),(113, .bc ig),(68, .bc kF),(91, .bc ik),(86, .bc kG),(114, .bc lZ),(131, .bc qp),(132, .bc kH),(133, .bc kJ),(134, .bc jc),(88, .bc kK),(87, .bc kL),(187, .bc eP),(66, .bc fA),(178, .bc jY),(159, .bc jb),(161, .bc gX),(192, .bc oZ),(191, .bc jZ),(190, .bc lY),(185, .bc jr),(115, .bc dU),(156, .bc rJ),(155, .bc jL),(119, .bc pg),(64, .bc rP),(122, .bc jW),(176, .bc lI),(175, .bc eQ),(186, .bc fB),(146, .bc lH),(105, .bc oL),(120, .bc lV),(74, .bc oN),(62, .bc rE),(107, .bc tq),(63, .bc oO),(83, .bc oP),(117, .bc qj),(152, .bc gQ),(106, .bc mW),(154, .bc jG),(172, .bc ru),(183, .bc qg),(81, .bc iY),(126, .bc mX),(127, .bc jH),(153, .bc oz),(118, .bc jI),(82, .bc oG),(71, .bc rC),(89, .bc lG),(75, .bc sV),(123, .bc gU),(73, .bc rQ),(80, .bc wE),(22, .bc wF),(55, .bc wG),(52, .bc mi),(53, .bc rU),(47, .bc pz),(26, .bc wI),(44, .bc pF),(129, .bc qA),(84, .bc lJ),(45, .bc pJ),(124, .bc xA),(158, .bc uQ),(76, .bc rW),(31, .bc rX),(21, .bc lF),(43, .bc iI),(42, .bc mF),(48, .bc mG),(10, .bc kM),(173, .df jK),(157, .df jh),(170, .nat (n_bcmp)),(125, .nat (qC Xa)),(111, .nat (qC Sv)),(50, .nat (jg MD.create)),(51, .nat (nV)),(108, .nat (jg MD.sync)),(121, .nat (Gv)),(116, .nat (qX)),(128, .nat (qW)),(85, .nat (jg MD.remove)),(49, .nat (vH)),(70, .nat (Gx))]
noncomputable def aad:Nat->Option (Ent MD):=look UW
theorem KP:∀f e,aad f=some e->e.plain:=zn (l:=UW) (by
 unfold UW
 repeat first|refine List.forall_mem_cons.2 ⟨True.intro, ?_⟩|refine List.forall_mem_cons.2 ⟨fun _ _=>rfl, ?_⟩
 intro p hp
 cases hp)
theorem XI:∀f e,aad f=some e->∀N,jD Tryz.prog OD f (vK N e):=look_ok (P:=Tryz.prog) (O:=OD) (l:=UW) (by
 unfold UW
 refine List.forall_mem_cons.2 ⟨fun N=>ai N OW, ?_⟩
 refine List.forall_mem_cons.2 ⟨fun N=>ai N Xx, ?_⟩
 refine List.forall_mem_cons.2 ⟨fun N=>ai N Uo, ?_⟩
 refine List.forall_mem_cons.2 ⟨fun N=>ai N Ur, ?_⟩
 refine List.forall_mem_cons.2 ⟨fun N=>ai N Us, ?_⟩
 refine List.forall_mem_cons.2 ⟨fun N=>ai N Ku, ?_⟩
 refine List.forall_mem_cons.2 ⟨fun N=>ai N Ut, ?_⟩
 refine List.forall_mem_cons.2 ⟨fun N=>ai N Kw, ?_⟩
 refine List.forall_mem_cons.2 ⟨fun N=>ai N Uu, ?_⟩
 refine List.forall_mem_cons.2 ⟨fun N=>ai N IE, ?_⟩
 refine List.forall_mem_cons.2 ⟨fun N=>ai N Z7, ?_⟩
 refine List.forall_mem_cons.2 ⟨fun N=>ai N Ky, ?_⟩
 refine List.forall_mem_cons.2 ⟨fun N=>ai N Uw, ?_⟩
 refine List.forall_mem_cons.2 ⟨fun N=>ai N Kz, ?_⟩
 refine List.forall_mem_cons.2 ⟨fun N=>ai N Ux, ?_⟩
 refine List.forall_mem_cons.2 ⟨fun N=>ai N Uy, ?_⟩
 refine List.forall_mem_cons.2 ⟨fun N=>ai N Xy, ?_⟩
 refine List.forall_mem_cons.2 ⟨fun N=>ai N Uz, ?_⟩
 refine List.forall_mem_cons.2 ⟨fun N=>ai N UA, ?_⟩
 refine List.forall_mem_cons.2 ⟨fun N=>ai N OX, ?_⟩
 refine List.forall_mem_cons.2 ⟨fun N=>ai N UB, ?_⟩
 refine List.forall_mem_cons.2 ⟨fun N=>ai N UD, ?_⟩
 refine List.forall_mem_cons.2 ⟨fun N=>ai N IG, ?_⟩
 refine List.forall_mem_cons.2 ⟨fun N=>ai N UE, ?_⟩
 refine List.forall_mem_cons.2 ⟨fun N=>ai N UF, ?_⟩
 refine List.forall_mem_cons.2 ⟨fun N=>ai N OY, ?_⟩
 refine List.forall_mem_cons.2 ⟨fun N=>ai N KA, ?_⟩
 refine List.forall_mem_cons.2 ⟨fun N=>ai N OZ, ?_⟩
 refine List.forall_mem_cons.2 ⟨fun N=>ai N II, ?_⟩
 refine List.forall_mem_cons.2 ⟨fun N=>ai N KC, ?_⟩
 refine List.forall_mem_cons.2 ⟨fun N=>ai N Fv, ?_⟩
 refine List.forall_mem_cons.2 ⟨fun N=>ai N UG, ?_⟩
 refine List.forall_mem_cons.2 ⟨fun N=>ai N UH, ?_⟩
 refine List.forall_mem_cons.2 ⟨fun N=>ai N KD, ?_⟩
 refine List.forall_mem_cons.2 ⟨fun N=>ai N O4, ?_⟩
 refine List.forall_mem_cons.2 ⟨fun N=>ai N UI, ?_⟩
 refine List.forall_mem_cons.2 ⟨fun N=>ai N IJ, ?_⟩
 refine List.forall_mem_cons.2 ⟨fun N=>ai N O5, ?_⟩
 refine List.forall_mem_cons.2 ⟨fun N=>ai N KE, ?_⟩
 refine List.forall_mem_cons.2 ⟨fun N=>ai N UJ, ?_⟩
 refine List.forall_mem_cons.2 ⟨fun N=>ai N O6, ?_⟩
 refine List.forall_mem_cons.2 ⟨fun N=>ai N O7, ?_⟩
 refine List.forall_mem_cons.2 ⟨fun N=>ai N KF, ?_⟩
 refine List.forall_mem_cons.2 ⟨fun N=>ai N O8, ?_⟩
 refine List.forall_mem_cons.2 ⟨fun N=>ai N UK, ?_⟩
 refine List.forall_mem_cons.2 ⟨fun N=>ai N Xz, ?_⟩
 refine List.forall_mem_cons.2 ⟨fun N=>ai N O9, ?_⟩
 refine List.forall_mem_cons.2 ⟨fun N=>ai N Pg, ?_⟩
 refine List.forall_mem_cons.2 ⟨fun N=>ai N XA, ?_⟩
 refine List.forall_mem_cons.2 ⟨fun N=>ai N KG, ?_⟩
 refine List.forall_mem_cons.2 ⟨fun N=>ai N XB, ?_⟩
 refine List.forall_mem_cons.2 ⟨fun N=>ai N Pj, ?_⟩
 refine List.forall_mem_cons.2 ⟨fun N=>ai N Z8, ?_⟩
 refine List.forall_mem_cons.2 ⟨fun N=>ai N Z9, ?_⟩
 refine List.forall_mem_cons.2 ⟨fun N=>ai N Pm, ?_⟩
 refine List.forall_mem_cons.2 ⟨fun N=>ai N XC, ?_⟩
 refine List.forall_mem_cons.2 ⟨fun N=>ai N KH, ?_⟩
 refine List.forall_mem_cons.2 ⟨fun N=>ai N UL, ?_⟩
 refine List.forall_mem_cons.2 ⟨fun N=>ai N KI, ?_⟩
 refine List.forall_mem_cons.2 ⟨fun N=>ai N Pn, ?_⟩
 refine List.forall_mem_cons.2 ⟨fun N=>ai N UM, ?_⟩
 refine List.forall_mem_cons.2 ⟨fun N=>ai N Po, ?_⟩
 refine List.forall_mem_cons.2 ⟨fun N=>ai N XD, ?_⟩
 refine List.forall_mem_cons.2 ⟨fun N=>ai N KJ, ?_⟩
 refine List.forall_mem_cons.2 ⟨fun N=>ai N UN, ?_⟩
 refine List.forall_mem_cons.2 ⟨fun N=>ai N XE, ?_⟩
 refine List.forall_mem_cons.2 ⟨fun N=>ai N XF, ?_⟩
 refine List.forall_mem_cons.2 ⟨fun N=>ai N UO, ?_⟩
 refine List.forall_mem_cons.2 ⟨fun N=>ai N KL, ?_⟩
 refine List.forall_mem_cons.2 ⟨fun N=>ai N UQ, ?_⟩
 refine List.forall_mem_cons.2 ⟨fun N=>ai N Pq, ?_⟩
 refine List.forall_mem_cons.2 ⟨fun N=>ai N XG, ?_⟩
 refine List.forall_mem_cons.2 ⟨fun N=>ai N Pv, ?_⟩
 refine List.forall_mem_cons.2 ⟨fun N=>ai N XH, ?_⟩
 refine List.forall_mem_cons.2 ⟨fun N=>ai N Px, ?_⟩
 refine List.forall_mem_cons.2 ⟨fun N=>ai N Py, ?_⟩
 refine List.forall_mem_cons.2 ⟨fun N=>ai N aab, ?_⟩
 refine List.forall_mem_cons.2 ⟨fun N=>ai N aac, ?_⟩
 refine List.forall_mem_cons.2 ⟨fun N=>ai N UR, ?_⟩
 refine List.forall_mem_cons.2 ⟨fun N=>ai N UT, ?_⟩
 refine List.forall_mem_cons.2 ⟨fun N=>ai N Pz, ?_⟩
 refine List.forall_mem_cons.2 ⟨fun N=>ai N A7, ?_⟩
 refine List.forall_mem_cons.2 ⟨fun N=>ai N KN, ?_⟩
 refine List.forall_mem_cons.2 ⟨fun N=>ai N KO, ?_⟩
 refine List.forall_mem_cons.2 ⟨fun N=>ai N Fz, ?_⟩
 refine List.forall_mem_cons.2 ⟨fun N=>QC N PD, ?_⟩
 refine List.forall_mem_cons.2 ⟨fun N=>QC N UU, ?_⟩
 refine List.forall_mem_cons.2 ⟨fun _=>RY, ?_⟩
 refine List.forall_mem_cons.2 ⟨fun _=>abg, ?_⟩
 refine List.forall_mem_cons.2 ⟨fun _=>aa5, ?_⟩
 refine List.forall_mem_cons.2 ⟨fun _=>Qw, ?_⟩
 refine List.forall_mem_cons.2 ⟨fun _=>QA, ?_⟩
 refine List.forall_mem_cons.2 ⟨fun _=>Y6, ?_⟩
 refine List.forall_mem_cons.2 ⟨fun _=>aaz, ?_⟩
 refine List.forall_mem_cons.2 ⟨fun _=>Y7, ?_⟩
 refine List.forall_mem_cons.2 ⟨fun _=>Qy, ?_⟩
 refine List.forall_mem_cons.2 ⟨fun _=>Qx, ?_⟩
 refine List.forall_mem_cons.2 ⟨fun _=>VV, ?_⟩
 refine List.forall_mem_cons.2 ⟨fun _=>aaA, ?_⟩
 intro p hp
 cases hp)
theorem acL:KwV aad:=by repeat' (first|rfl|constructor)
end Am
end Go.Proofs.YtbnkdnlfdofepaaGreat
