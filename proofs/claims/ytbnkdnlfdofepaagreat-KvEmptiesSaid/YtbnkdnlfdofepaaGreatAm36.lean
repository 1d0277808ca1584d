/- The plain machine: what a law is given: opened one by one. -/
import Derived.Test.YtbnkdnlfdofepaaGreatMH
import Derived.KernelRfl
import Derived.SizedLaws
set_option linter.unusedVariables false
set_option linter.unusedSimpArgs false
namespace Go.Proofs.YtbnkdnlfdofepaaGreat
namespace Am
open Go.RowKit Go.ChangeShapes Go.WideShapes Go.ChangeAt Go.Deep
set_option maxRecDepth 10000
theorem Ez {m:Mu}:VRs m [] []:=by simp only [VRs]
theorem oC {m:Mu} {a:AV} {v:Value} {xs:List AV} {l:List Value} (h:VR m a v) (hl:VRs m xs l):VRs m (a::xs) (v::l):=by
 simp only [VRs]
 exact ⟨v,l,rfl,h,hl⟩
theorem LH {m:Mu} {b:Bool}:VR m (.bool b) (.bool b):=by simp only [VR]
section
variable {O:dH} {W:World} {m:Mu} {h:Hp O.X}
theorem Ini.each {α:Type} {f:α->Value} {Q:Hp O.X->AV->α->Prop} (hQ:∀{h h':Hp O.X} {x:AV} {r:α},Q h x r->Keep NoB h h'->Q h' x r):∀{rs:List α} {m:Mu} {h:Hp O.X},Ini O W m h->
  (∀r∈rs,∀{m:Mu} {h:Hp O.X},Ini O W m h->∃m' h' x,Ini O W m' h'/\Ext m m'/\Keep NoB h h'/\VR m' x (f r)/\x.one=true/\Q h' x r)->
  ∃m' h' xs,Ini O W m' h'/\Ext m m'/\Keep NoB h h'/\VRs m' xs (rs.map f)/\(∀x∈xs,x.one=true)/\xs.length=rs.length/\∀(i:Nat) x r,xs[i]?=some x->rs[i]?=some r->Q h' x r
 |[],m,h,hi,_=>⟨m,h,[],hi,Ext.refl _,Keep.refl _ _,Ez,(fun _ q=>by cases q),rfl,fun i x r q=>by simp at q⟩
 |r::rs,m,h,hi,hr=>by
  obtain ⟨m1,h1,x,i1,e1,k1,v1,o1,q1⟩:=hr r (List.mem_cons_self ..) hi
  obtain ⟨m2,h2,xs,i2,e2,k2,v2,o2,l2,q2⟩:=Ini.each (f:=f) (Q:=Q) hQ i1 (fun r' hr'=>hr r' (List.mem_cons_of_mem _ hr'))
  refine ⟨m2,h2,x::xs,i2,e1.trans e2,k1.and k2,oC (v1.ext e2) v2,fun y hy=> ?_,by simp [l2],fun i y s hy hs=> ?_⟩
  ·rcases List.mem_cons.1 hy with rfl|hy
   ·exact o1
   ·exact o2 y hy
  ·cases i with
   |zero=>simp at hy hs;subst hy hs;exact hQ q1 k2
   |succ i=>simp at hy hs;exact q2 i y s hy hs
end
theorem Jy {X:Type} {h:Hp X} {z n:Nat} {v:AV} {cells:List AV} (a:RS h z v n cells):v.one=true:=by
 cases v<;>first|exact a.elim|rfl
end Am
end Go.Proofs.YtbnkdnlfdofepaaGreat
