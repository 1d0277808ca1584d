/- The plain machine: batches that a law is given, opened. The plain machine: entries that a law is given, opened. -/
import Derived.Test.YtbnkdnlfdofepaaGreatAm36
import Derived.Test.YtbnkdnlfdofepaaGreatMH
import Derived.Test.YtbnkdnlfdofepaaGreatMK
set_option linter.unusedVariables false
set_option linter.unusedSimpArgs false
namespace Go.Proofs.YtbnkdnlfdofepaaGreat
namespace Am
open Go.RowKit Go.ChangeShapes Go.WideShapes Go.ChangeAt Go.Deep
set_option maxRecDepth 10000
abbrev Nc:=Option Addr×Bs×Nat
abbrev Ko:=Nc×Nc×Bool
def rb (r:Nc):Value:= .slice r.1 r.2.1.length r.2.2
def fE (r:Ko):List Value:=[rb r.1,rb r.2.1, .bool r.2.2]
def mkE (r:Ko):EM:=⟨r.1.2.1,r.2.1.2.1,r.2.2⟩
def aby (w:World) (r:Nc):Prop:=Rd w 1 (rb r) r.2.1.length (r.2.1.map bv)/\∀ad,r.1=some ad->0 < r.2.2->ad.block < w.heap.size/\ad.spot=none
def Fp (w:World) (r:Ko):Prop:=aby w r.1/\aby w r.2.1
theorem OU {H:Type} {enc:TypeId×Value->H} {W:World} {v:Value} {d:DataW H} {ps:List MemPlace} (hok:∃a len cap,v= .slice a len cap) (h:DataW.Trod enc Tryz.prog W 0 (fun _=>true) true 71 v d ps):
  ∃(a:Option Addr) (rs:List Ko) (c:Nat),v= .slice a rs.length c/\Rd W 3 (.slice a rs.length c) rs.length (rs.map fE).flatten/\∀r∈rs,Fp W r:=by
 obtain ⟨fs,hu,ht,hone⟩:∃fs,Tryz.prog.underlying 40=some (.struct fs)/\fs.map (fun f=>f.type)= #[23,23,4]/\oneCellFields Tryz.prog fs=true:=⟨_,Tryz.underlying40,by simp,by kernel_rfl⟩
 have hC:Tryz.prog.cellsOf 40=3:=by kernel_rfl
 have h8:Tryz.prog.cellsOf 5=1:=by kernel_rfl
 have hsz:fs.size=3:=by have:=congrArg Array.size ht;simpa using this
 obtain ⟨a,vs,c,hv,hr,hx⟩:=Es Tryz.underlying71 hu hone (by rw [hC,hsz]) (by omega) hok h
 have hty:∀(i:Nat) (t:TypeId),(#[23,23,4]:Array TypeId)[i]?=some t->∃f:Field,fs[i]?=some f/\f.type=t:=by
  intro i t hi
  rw [<-ht,Array.getElem?_map] at hi
  exact Option.map_eq_some_iff.1 hi
 obtain ⟨rs,rfl,h2⟩:=Ls (f:=fE) (q:=Fp W) (xs:=vs) fun cs hcs=>by
  obtain ⟨hl,hf⟩:=hx cs hcs
  rw [hsz] at hl
  obtain ⟨x0,x1,x2,rfl⟩:∃x0 x1 x2,cs=[x0,x1,x2]:=by
   match cs,hl with
   |[a,b,c],_=>exact ⟨a,b,c,rfl⟩
  have key:∀(i:Nat) (t:TypeId),(#[23,23,4]:Array TypeId)[i]?=some t->∃(n:Nat) (x:DataW H×List MemPlace),DataW.trod enc Tryz.prog W 0 (fun _=>true) true n t [[x0,x1,x2].getD i undef]=some x:=fun i t hi=>by
   obtain ⟨f,g1,g2⟩:=hty i t hi
   obtain ⟨n,x,hx⟩:=hf i f g1
   exact ⟨n,x,by rw [<-g2];exact hx⟩
  obtain ⟨n0,⟨d0,p0⟩,r0⟩:=key 0 _ rfl
  obtain ⟨n1,⟨d1,p1⟩,r1⟩:=key 1 _ rfl
  obtain ⟨n2,⟨d2,p2⟩,r2⟩:=key 2 _ rfl
  obtain ⟨b,e2,_⟩:=DataW.trod_bool Tryz.underlying4 r2
  simp only [List.getD_cons_zero,List.getD_cons_succ] at r0 r1
  obtain ⟨a0,l0,c0,e0⟩:=GY Tryz.underlying23 r0
  obtain ⟨a1,l1,c1,e1⟩:=GY Tryz.underlying23 r1
  subst e0 e1
  obtain ⟨a0,l0,c0,f0,s0⟩:=xK Tryz.underlying23 Tryz.underlying5 h8 ⟨_,_,_,rfl⟩ (show DataW.Trod enc Tryz.prog W 0 (fun _=>true) true 23 (.slice a0 l0 c0) d0 p0 from ⟨n0,r0⟩)
  obtain ⟨a1,l1,c1,f1,s1⟩:=xK Tryz.underlying23 Tryz.underlying5 h8 ⟨_,_,_,rfl⟩ (show DataW.Trod enc Tryz.prog W 0 (fun _=>true) true 23 (.slice a1 l1 c1) d1 p1 from ⟨n1,r1⟩)
  simp only [List.getD_cons_zero,List.getD_cons_succ,List.cons.injEq,and_true] at e2
  exact ⟨((a0,l0,c0),(a1,l1,c1),b),by rw [f0,f1,e2];rfl,s0,s1⟩
 rw [List.length_map,hsz] at hr
 rw [List.length_map] at hv
 exact ⟨a,rs,c,hv,hr,h2⟩
theorem hW3 {W:World} {a:Option Addr} {c:Nat} {rs:List Ko} (hr:Rd W 3 (.slice a rs.length c) rs.length (rs.map fE).flatten) (hne:rs≠[]):0 < W.heap.size:=by
 obtain ⟨h1,_,a',c',e,_,_,h5,h6⟩:=hr
 simp only [Value.slice.injEq] at e
 obtain ⟨rfl,_,rfl⟩:=e
 cases rs with
 |nil=>exact absurd rfl hne
 |cons r rs=>
  cases a with
  |none=>have:=(h5 rfl).1;simp at this
  |some ad=>
   have:=(h6 ad rfl).2 0 (rb r.1) (by simp [fE])
   have:=World.block_lt_of_cell? W _ this
   omega
section
variable {O:dH} {W:World} {m:Mu} {h:Hp O.X}
theorem Ini.Yl:∀{rs:List Ko} {m:Mu} {h:Hp O.X},(rs≠[]->0 < W.heap.size)->Ini O W m h->(∀r∈rs,Fp W r)->
  ∃(m':Mu) (h':Hp O.X) (tri:List T3),Ini O W m' h'/\Ext m m'/\Keep NoB h h'/\VRs m' (tri.flatMap f3) (rs.map fE).flatten/\(∀x∈tri.flatMap f3,x.one=true)/\tri.length=rs.length/\∀(i:Nat) (q:T3) r,tri[i]?=some q->rs[i]?=some r->eH h' q (mkE r)
 |[],m,h,_,hi,_=>⟨m,h,[],hi,Ext.refl _,Keep.refl _ _,Ez,(fun _ q=>by cases q),rfl,fun i x r q=>by simp at q⟩
 |r::rs,m,h,hW,hi,hr=>by
  obtain ⟨⟨g1,g1p⟩,g2,g2p⟩:=hr r (List.mem_cons_self ..)
  have hW0:=hW (by simp)
  obtain ⟨m1,h1,x,i1,e1,k1,v1,r1,_⟩:=hi.bytes g1
  obtain ⟨m2,h2,y,i2,e2,k2,v2,r2,_,s2⟩:=i1.Zl hW0 g2 g2p
  obtain ⟨m3,h3,tri,i3,e3,k3,v3,o3,l3,q3⟩:=Ini.Yl (fun _=>hW0) i2 (fun r' hr'=>hr r' (List.mem_cons_of_mem _ hr'))
  refine ⟨m3,h3,(x,y,r.2.2)::tri,i3,(e1.trans e2).trans e3,(k1.and k2).and k3, ?_, ?_,by simp [l3],fun i q s hy hs=> ?_⟩
  ·rw [List.flatMap_cons,List.map_cons,List.flatten_cons]
   exact oC ((v1.ext e2).ext e3) (oC (v2.ext e3) (oC LH v3))
  ·intro z hz
   rw [List.flatMap_cons] at hz
   rcases List.mem_append.1 hz with hz|hz
   ·simp only [f3,List.mem_cons,List.not_mem_nil,or_false] at hz
    rcases hz with rfl|rfl|rfl
    ·exact Jy r1
    ·exact Jy r2
    ·rfl
   ·exact o3 z hz
  ·cases i with
   |zero=>simp at hy hs;subst hy hs;exact ⟨rfl,(r1.up k2).up k3,r2.up k3,s2⟩
   |succ i=>simp at hy hs;exact q3 i q s hy hs
end
abbrev Ue:=Option Addr×List Ko×Nat
def Ym (r:Ue):Value:= .slice r.1 r.2.1.length r.2.2
def Xt (w:World) (r:Ue):Prop:=Rd w 3 (Ym r) r.2.1.length (r.2.1.map fE).flatten/\∀z∈r.2.1,Fp w z
structure Uf {X:Type} (h:Hp X) (x:AV) (l:List EM):Prop where
 e:aN h x l (fun _=>True)
 len:l.length<=maxLen
structure ZX (W:World) (v:Value):Prop where
 out:∀{m:Mu} {h:Hp OD.X},Ini OD W m h->∃(l:List EM) (m':Mu) (h':Hp OD.X) (x:AV),Ini OD W m' h'/\Ext m m'/\Keep NoB h h'/\VR m' x v/\Uf h' x l
theorem Ini.entries {W:World} {m:Mu} {h:Hp OD.X} (hi:Ini OD W m h) {r:Ue} (hr:Xt W r):∃(m':Mu) (h':Hp OD.X) (x:AV),Ini OD W m' h'/\Ext m m'/\Keep NoB h h'/\VR m' x (Ym r)/\x.one=true/\Uf h' x (r.2.1.map mkE):=by
 obtain ⟨g1,g2⟩:=hr
 obtain ⟨m1,h1,tri,i1,e1,k1,v1,o1,l1,q1⟩:=Ini.Yl (hW3 g1) hi g2
 obtain ⟨m2,h2,x,i2,e2,k2,v2,r2,_⟩:=i1.slice (by decide) g1 v1 o1
 refine ⟨m2,h2,x,i2,e1.trans e2,k1.and k2,v2,Jy r2,⟨tri,by rw [List.length_map];exact r2,by rw [List.length_map];exact l1,fun i q e h1 h2=> ?_,fun _ _=>trivial,fun _ _ _ _=>trivial⟩,by rw [List.length_map];exact g1.2.1⟩
 rw [List.getElem?_map] at h2
 obtain ⟨s,hs,rfl⟩:=Option.map_eq_some_iff.1 h2
 exact (q1 i q s h1 hs).up k2
theorem open_entries {H:Type} {enc:TypeId×Value->H} {W:World} {r:Reach} {b0:Nat} {v:Value} {d:DataW H} {ps:List MemPlace} (hval:Value.okWide Tryz.prog W r b0 71 v) (h:DataW.Trod enc Tryz.prog W 0 (fun _=>true) true 71 v d ps):ZX W v:=by
 obtain ⟨a,l,c,hv,hr,hz⟩:=OU (okWide_slice Tryz.underlying71 hval) h
 subst hv
 refine ⟨fun {m h} hi=> ?_⟩
 obtain ⟨m',h',x,i1,e1,k1,v1,_,q1⟩:=hi.entries (r:=(a,l,c)) ⟨hr,hz⟩
 exact ⟨_,m',h',x,i1,e1,k1,v1,q1⟩
end Am
end Go.Proofs.YtbnkdnlfdofepaaGreat
