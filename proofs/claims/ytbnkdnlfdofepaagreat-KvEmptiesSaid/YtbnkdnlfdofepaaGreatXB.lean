/- Bytes held against one another: octet.Less, octet.Shared; an entry by itself: own. slices.Insert of one entry into a row that has room. slices.Insert of an entry, as a function of the table. What lies in a world, read from another call on: a plain heap with nothing but rows to read. -/
import Derived.Test.YtbnkdnlfdofepaaGreatXA
import Derived.Test.YtbnkdnlfdofepaaGreatML
import Derived.Test.YtbnkdnlfdofepaaGreatMR
import Derived.Test.YtbnkdnlfdofepaaGreatRows
import Derived.Test.YtbnkdnlfdofepaaGreatMA
import Derived.Lib.Overlaps
import Derived.Deep.RegionLaw
set_option linter.unusedVariables false
set_option linter.unusedSimpArgs false
namespace Go.Proofs.YtbnkdnlfdofepaaGreat
namespace Am
open Go.RowKit
set_option maxRecDepth 100000
def iq:BF:=⟨9,[0,1,4],(.seq (.reg [mvS 2 (.mv (.const (.bool false)))]) (.seq (.reg [ceS 5 0,ceS 6 1,clE 7 170 [eV 5,eV 6],mvE 8 (.bin .lss .no (eV 7) (.const (.int .i64 0))),csE 2 8]) .ret)),[.slot (sL 2)]⟩
def eP:BF:=⟨30,[0,1,4,5,26],(.seq (.reg [mvS 2 (.mv (.const (.int .i64 0)))]) (.seq (.reg [mvS 3 (.mv (.const (.int .i64 0)))]) (.seq (.block 0 (.loop (.seq (.seq (.iC [(ceS 6 3,[]),(ceS 7 0,[]),(lnE 8 7,[]),(mvE 9 (.bin .lss .no (eV 6) (eV 8)),[]),(ceE 10 9,[]),(.mk (some ((eV 10),true)) (.env 11) (.mov (.mv (sL 3))),[]),(.mk (some ((eV 10),true)) (.env 12) (.mov (.mv (sL 1))),[]),(.mk (some ((eV 10),true)) (.env 13) (.mov (.ah (eV 12))),[]),(.mk (some ((eV 10),true)) (.env 14) (.mov (.bin .lss .no (eV 11) (eV 13))),[]),(mvE 15 (.pick (eV 10) (eV 14) (.const (.bool false))),[]),(ceE 16 15,[]),(.mk (some ((eV 16),true)) (.env 17) (.mov (.mv (sL 0))),[]),(.mk (some ((eV 16),true)) (.env 18) (.mov (.mv (sL 3))),[]),(.mk (some ((eV 16),true)) (.env 19) (.mov (.aP 1 (eV 17) (eV 18))),[]),(.mk (some ((eV 16),true)) (.env 20) (.mov (.ld1 (eV 19))),[]),(.mk (some ((eV 16),true)) (.env 21) (.mov (.mv (sL 1))),[]),(.mk (some ((eV 16),true)) (.env 22) (.mov (.mv (sL 3))),[]),(.mk (some ((eV 16),true)) (.env 23) (.mov (.aP 1 (eV 21) (eV 22))),[]),(.mk (some ((eV 16),true)) (.env 24) (.mov (.ld1 (eV 23))),[]),(.mk (some ((eV 16),true)) (.env 25) (.mov (.bin .eql .no (eV 20) (eV 24))),[]),(mvS 4 (.pick (eV 16) (eV 25) (.const (.bool false))),[])]) (.cond (sL 4) .skip (.exit 0))) (.block 1 (.reg [ceS 27 3,mvE 28 (.bin .add .no (eV 27) (.const (.int .i64 1))),csE 3 28]))))) (.seq (.reg [ceS 29 3,csE 2 29]) .ret)))),[.slot (sL 2)]⟩
def jo:BF:=⟨15,[0,1,2,12],(.seq (.reg [.mk none (.slot 1) (.eff (.box (sL 0))), .mk none (.slot 2) (.eff (.alloc [.ae, .ae,(.bool false)]))]) (.seq (.iC [(mvE 3 (.aG 0 (sL 1)),[]),(ldE 4 3,[]),(mvE 6 (.aG 1 (sL 1)),[]),(ldE 7 6,[]),(clE 5 112 [eV 4],[2,3]),(mvE 9 (.aG 0 (sL 1)),[]),(clE 8 112 [eV 7],[5]),(.mk none .none (.eff (.store 1 (eV 9) (eV 5))),[]),(mvE 10 (.aG 1 (sL 1)),[]),(.mk none .none (.eff (.store 1 (eV 10) (eV 8))),[])]) (.seq (.seq (.reg [mvE 11 (.aG 2 (sL 1)),mvS 3 (.ld1 (eV 11))]) (.cond (sL 3) (.reg [mvE 13 (.aG 1 (sL 1)), .mk none .none (.eff (.store 1 (eV 13) (.const .ae)))]) .skip)) (.seq (.reg [mvE 14 (.ldn 3 (sL 1)), .mk none .none (.eff (.store 3 (sL 2) (eV 14)))]) .ret)))),[.fG 3 (sL 2)]⟩
theorem aa0 {X:Type} {D:Dp X} {b:BC} {t:List AV} {h h':Hp X} {Q:R X->Prop} (he:h=h') (H:WB D b t h' Q):WB D b t h Q:=he▸H
section
variable {E:Nat->Option (Ent MD)}
theorem bytesOf_map:∀l:List UInt8,bytesOf (l.map ub)=some l
 |[]=>rfl
 |b::l=>by
  rw [List.map_cons]
  show (match bytesOf (l.map ub) with|some r=>some (UInt8.ofNat (b.toNat:Int).toNat::r)|none=>none)=_
  rw [bytesOf_map l]
  simp
theorem WH (hE:∀f e,E f=some e->e.plain) (hc:E 170=some (.nat n_bcmp)) {h:Hp MD} {v w:AV} {a b:List UInt8} (ha:RS h 1 v a.length (a.map ub)) (hb:RS h 1 w b.length (b.map ub)):
  WF (lim E) 170 [v,w] h fun r h'=>h'=h/\r= .int .i64 (Lib.compareBytes a b):=by
 have e:∀D,n_bcmp D [v,w] h= .ret (.int .i64 (Lib.compareBytes a b)) h:=fun D=>by
  simp only [n_bcmp,ha.elems,hb.elems,bytesOf_map]
 exact ⟨⟨_,_,(iP hE hc (D:=lim E) (by rw [e];intro q;cases q)).trans (e _),rfl,rfl⟩⟩
theorem tJ (hE:∀f e,E f=some e->e.plain) (hf:E 147=some (.bc iq)) (hc:E 170=some (.nat n_bcmp)) {h:Hp MD} {v w:AV} {a b:List UInt8} (ha:RS h 1 v a.length (a.map ub)) (hb:RS h 1 w b.length (b.map ub)):
  WF (lim E) 147 [v,w] h fun r h'=>h'=h/\r= .bool (bl a b):=by
 refine aC hE hf rfl ?_
 simp only [iq,mvE,mvS,clE,efE,ceS,ceE,csE,faE,nlE,ldE,lnE,exE,eV,sL,kI,List.map,getS]
 repeat first|refine ZA ?_|refine BP ?_|refine BQ ?_
 refine ag rfl ((WH hE hc ha hb).mono fun r h1 ⟨e1,e2⟩=> ?_)
 subst e1 e2
 by_cases hlt:Lib.compareBytes a b < 0
 ·repeat first|refine ZA ?_|refine BP ?_|refine BQ ?_
  exact ⟨rfl,by rw [uB.2 hlt];rfl⟩
 ·repeat first|refine ZA ?_|refine BP ?_|refine BQ ?_
  exact ⟨rfl,by unfold bl;rw [decide_eq_false hlt];rfl⟩
set_option maxHeartbeats 4000000 in
theorem Ot (hE:∀f e,E f=some e->e.plain) (hf:E 187=some (.bc eP)) {h:Hp MD} {v w:AV} {a b:List UInt8} (ha:RS h 1 v a.length (a.map ub)) (hb:RS h 1 w b.length (b.map ub)) (hl:a.length<=1099511627776):
  WF (lim E) 187 [v,w] h fun r h'=>h'=h/\r= .int .i64 (shF a b):=by
 refine aC hE hf rfl ?_
 simp only [eP,mvE,mvS,clE,efE,ceS,ceE,csE,faE,nlE,ldE,lnE,exE,eV,sL,kI,List.map,getS]
 repeat first|refine ZA ?_|refine BP ?_|refine BQ ?_
 refine aQ (fun m t hh=>∃(n:Nat) (s4:AV),hh=h/\n<=a.length/\n<=b.length/\a.take n=b.take n/\m=a.length - n/\t=[v,w, .int .i64 0, .int .i64 n,s4]) ?_ a.length _ _ ⟨0,_,rfl,by omega,by omega,by simp,by omega,rfl⟩
 rintro m t hh ⟨n,s4,rfl,hna,hnb,htk,hm,rfl⟩
 by_cases h1:n < a.length
 ·by_cases h2:n < b.length
  ·obtain ⟨g1,o1,pa,la⟩:=ha.at2 h1
   obtain ⟨g2,o2,pb,lb⟩:=hb.at2 h2
   have la:= @la NoB hh (Keep.refl _ _) (fun _ _ q=>q)
   have lb:= @lb NoB hh (Keep.refl _ _) (fun _ _ q=>q)
   have ca:(a.map ub)[n]?=some (.int .u8 (a[n].toNat:Int)):=by rw [List.getElem?_map,List.getElem?_eq_getElem h1];rfl
   have cb:(b.map ub)[n]?=some (.int .u8 (b[n].toNat:Int)):=by rw [List.getElem?_map,List.getElem?_eq_getElem h2];rfl
   rw [ca] at la
   rw [cb] at lb
   have hs:=JF h1 h2 htk
   by_cases hq:(a[n].toNat:Int)=(b[n].toNat:Int)
   ·have hab:a[n]=b[n]:=UInt8.toNat_inj.1 (by omega)
    repeat first|refine ZI ?_|refine CB (ha.ah (by rfl)) ?_|refine CB (hb.ah (by rfl)) ?_|refine CB (pa rfl rfl) ?_|refine CB (pb rfl rfl) ?_|refine CB (la rfl) ?_|refine CB (lb rfl) ?_|refine BV (ha.ah (by rfl)) ?_|refine BV (hb.ah (by rfl)) ?_|refine BV (pa rfl rfl) ?_|refine BV (pb rfl rfl) ?_|refine BV (la rfl) ?_|refine BV (lb rfl) ?_|refine BP ?_|refine BQ ?_|refine CC ?_
    rw [show ((n:Int)+1)=((n+1:Nat):Int) by omega]
    refine aj (m - 1) (by omega) ⟨n+1,_,rfl,by omega,by omega, ?_,by omega,rfl⟩
    rw [List.take_add_one,List.take_add_one,htk,List.getElem?_eq_getElem h1,List.getElem?_eq_getElem h2,hab]
   ·have hab:¬a[n]?=b[n]?:=by rw [List.getElem?_eq_getElem h1,List.getElem?_eq_getElem h2];exact fun q=>hq (by rw [Option.some.inj q])
    repeat first|refine ZI ?_|refine CB (ha.ah (by rfl)) ?_|refine CB (hb.ah (by rfl)) ?_|refine CB (pa rfl rfl) ?_|refine CB (pb rfl rfl) ?_|refine CB (la rfl) ?_|refine CB (lb rfl) ?_|refine BV (ha.ah (by rfl)) ?_|refine BV (hb.ah (by rfl)) ?_|refine BV (pa rfl rfl) ?_|refine BV (pb rfl rfl) ?_|refine BV (la rfl) ?_|refine BV (lb rfl) ?_|refine BP ?_|refine BQ ?_|refine CC ?_
    exact ⟨rfl,by rw [hs.2 hab];rfl⟩
  ·repeat first|refine ZI ?_|refine (CU rfl) ?_|refine CB (ha.ah (by rfl)) ?_|refine CB (hb.ah (by rfl)) ?_|refine BV (ha.ah (by rfl)) ?_|refine BV (hb.ah (by rfl)) ?_|refine BP ?_|refine BQ ?_|refine CC ?_
   exact ⟨rfl,by rw [Mc htk hna hnb (by omega)];rfl⟩
 ·repeat first|refine ZI ?_|refine (CU rfl) ?_|refine CB (ha.ah (by rfl)) ?_|refine CB (hb.ah (by rfl)) ?_|refine BV (ha.ah (by rfl)) ?_|refine BV (hb.ah (by rfl)) ?_|refine BP ?_|refine BQ ?_|refine CC ?_
  exact ⟨rfl,by rw [Mc htk hna hnb (by omega)];rfl⟩
theorem RS.nse {X:Type} {h:Hp X} {n z:Nat} {v:AV} {cells:List AV} (a:RS h z v n cells) (hn:0 < n):v≠ .bV:=by
 rintro rfl
 have:=a.1
 omega
def MB (h:Hp MD) (e:EM) (r:AV) (h':Hp MD):Prop:=∃q,r= .agg (f3 q)/\Keep NoB h h'/\eH h' q e.own/\∀k,blk q.1 k\/blk q.2.1 k->h.n<=k
set_option maxHeartbeats 4000000 in
theorem rH (hE:∀f e,E f=some e->e.plain) {f:Nat} (hf:E f=some (.bc jo)) (hc:E 112=some (.bc dD)) {h:Hp MD} {q:T3} {e:EM} (hv:eH h q e) (hk:0 < e.key.length) (h1:e.key.length<=1099511627776) (h2:e.val.length<=1099511627776):
  WF (lim E) f [.agg (f3 q)] h fun r h'=>MB h e r h':=by
 obtain ⟨kv,vv,gb⟩:=q
 have hgb:=hv.gone
 have hkv:=hv.key
 have hvv:=hv.val
 have hse:=hv.nse
 simp only at hgb hkv hvv hse
 subst hgb
 refine aC hE hf rfl ?_
 simp only [jo,mvE,mvS,clE,efE,ceS,ceE,csE,faE,nlE,ldE,lnE,exE,eV,sL,kI,List.map,getS]
 have hall:allOne [kv,vv, .bool e.gone]=true:=aX hkv.one.2 hvv.one.2 rfl
 have b1:Bx (h.push (.rw [kv,vv, .bool e.gone])) h.n _:=aH
 have k1:Keep NoB h (h.push (.rw [kv,vv, .bool e.gone])):=Keep.push _ _ _
 have b2:Bx ((h.push (.rw [kv,vv, .bool e.gone])).push (.rw [.ae, .ae, .bool false])) (h.n+1) _:=aH
 have k2:Keep NoB (h.push (.rw [kv,vv, .bool e.gone])) ((h.push (.rw [kv,vv, .bool e.gone])).push (.rw [.ae, .ae, .bool false])):=Keep.push _ _ _
 have b12:=b1.up k2
 have K2:=k1.and k2
 have Zw:=hkv.up K2
 have aa1:=hvv.up K2
 obtain ⟨h2',hh2⟩:∃h2':Hp MD,h2'=(h.push (.rw [kv,vv, .bool e.gone])).push (.rw [.ae, .ae, .bool false]):=⟨_,rfl⟩
 have hn2:h2'.n=h.n+2:=by rw [hh2];rfl
 rw [<-hh2] at b2 b12 K2 Zw aa1
 repeat first|refine ZB ?_|refine BW (iD rfl hall) ?_|refine BP ?_|refine BQ ?_
 refine AE ?_
 refine mY (h':=h2') (by rw [hh2];rfl) ?_
 clear hh2 k2 k1 b1
 repeat first|refine ZI ?_|refine CB (au b12 rfl rfl) ?_|refine BV (au b12 rfl rfl) ?_|refine BP ?_|refine BQ ?_|refine CC ?_
 refine bF rfl ((lU hE hc Zw (Zw.nse hk) (by omega)).mono fun kc h3 ⟨⟨k3,l3⟩,o3⟩=> ?_)
 have b13:=b12.up k3
 have b23:=b2.up k3
 have Zx:=aa1.up k3
 have n3:=k3.n
 refine ⟨(by (try simp only [List.nil_append,List.cons_append]);repeat first|exact aW|(apply iR;(focus exact rfl);first|exact jq|(refine iT ?_;first|exact (au b13 rfl rfl)|exact rfl))), ?_⟩
 repeat first|refine ZI ?_|refine CB (au b13 rfl rfl) ?_|refine BV (au b13 rfl rfl) ?_|refine BP ?_|refine BQ ?_|refine CC ?_
 refine bF rfl ((lU hE hc Zx hse (by omega)).mono fun vc h4 ⟨⟨k4,l4⟩,o4⟩=> ?_)
 have b14:=b13.up k4
 have b24:=b23.up k4
 have o34:=o3.up k4
 have n4:=k4.n
 refine ⟨(by (try simp only [List.nil_append,List.cons_append]);repeat first|exact aW|(apply iR;(focus exact rfl);first|exact jq|(refine iT ?_;first|exact (au b14 rfl rfl)|exact rfl))), ?_⟩
 have b15:Bx (h4.put h.n (.rw [kc,vv, .bool e.gone])) h.n [kc,vv, .bool e.gone]:=b14.put
 have b25:Bx (h4.put h.n (.rw [kc,vv, .bool e.gone])) (h.n+1) _:=b24.iQ (by omega)
 have b16:Bx ((h4.put h.n (.rw [kc,vv, .bool e.gone])).put h.n (.rw [kc,vc, .bool e.gone])) h.n [kc,vc, .bool e.gone]:=b15.put
 have b26:Bx ((h4.put h.n (.rw [kc,vv, .bool e.gone])).put h.n (.rw [kc,vc, .bool e.gone])) (h.n+1) _:=b25.iQ (by omega)
 have kq:Keep (az h.n) h4 ((h4.put h.n (.rw [kc,vv, .bool e.gone])).put h.n (.rw [kc,vc, .bool e.gone])):=(Keep.put (S:=az h.n) _ _ _ rfl).trans (T:=az h.n) (Keep.put (S:=az h.n) _ _ _ rfl) (fun _ _ q=>q)
 obtain ⟨h5,hh5⟩:∃h5:Hp MD,h5=(h4.put h.n (.rw [kc,vv, .bool e.gone])).put h.n (.rw [kc,vc, .bool e.gone]):=⟨_,rfl⟩
 refine rD (fQ b14 rfl rfl o34.one (Nat.zero_lt_succ _)) aW ?_
 repeat first|refine ZI ?_|refine BP ?_|refine BQ ?_|refine CC ?_
 refine rD (fQ b15 rfl rfl o4.one (Nat.succ_lt_succ (Nat.zero_lt_succ _))) aW ?_
 repeat first|refine ZI ?_|refine BP ?_|refine BQ ?_|refine CC ?_
 refine aJ (h':=h5) (by rw [hh5];first|done|rfl) ?_
 rw [<-hh5] at b16 b26 kq
 have n5:h5.n=h4.n:=by rw [hh5];rfl
 clear hh5 b15 b25
 have K5:Keep NoB h h5:=((K2.and k3).and k4).own kq (fun k q=>by have q:k=h.n:=q;omega)
 have lk:∀k,blk kc k->h.n+2<=k:=fun k q=>by have:=l3 k q;omega
 have lv:∀k,blk vc k->h.n+2<=k:=fun k q=>by have:=l4 k q;omega
 have o35:=o34.keep kq (fun k q1 q2=>by have q2:k=h.n:=q2;have:=lk k q1;omega)
 have o45:=o4.keep kq (fun k q1 q2=>by have q2:k=h.n:=q2;have:=lv k q1;omega)
 have fin:∀{h6:Hp MD} {x:AV},Keep NoB h h6->h.n+2<=h6.n->Bx h6 (h.n+1) [.ae, .ae, .bool false]->OS h6 1 kc e.key.length (e.key.map ub)->OS h6 1 x e.own.val.length (e.own.val.map ub)->(∀k,blk x k->h.n+2<=k)->
   ∃l,resV [AV.agg (f3 (kv,vv,e.gone)), .ptr h.n 0, .ptr (h.n+1) 0, .bool e.gone] (h6.put (h.n+1) (.rw [kc,x, .bool e.gone])) [.fG 3 (.slot 2)]=some l/\MB h e (packA l) (h6.put (h.n+1) (.rw [kc,x, .bool e.gone])):=fun {h6 x} K hn b ok ov lx=>by
  have kw:Keep (az (h.n+1)) h6 (h6.put (h.n+1) (.rw [kc,x, .bool e.gone])):=Keep.put _ _ _ rfl
  refine ⟨_,yD rfl (Hp.bW _ _ _) (Nat.le_refl 3),(kc,x,e.gone),rfl,K.own kw (fun k q=>by have q:k=h.n+1:=q;omega),⟨rfl,(ok.keep kw (fun k q1 q2=>by have q2:k=h.n+1:=q2;have:=lk k q1;omega)).rs,(ov.keep kw (fun k q1 q2=>by have q2:k=h.n+1:=q2;have:=lx k q1;omega)).rs,ov.vP⟩,fun k q=> ?_⟩
  rcases q with q|q
  ·have:=lk k q;omega
  ·have:=lx k q;omega
 have hov:e.own.val=if e.gone then [] else e.val:=rfl
 cases hg:e.gone with
 |true=>
  rw [hg] at hov fin b16
  have b17:Bx (h5.put h.n (.rw [kc, .ae, .bool true])) h.n [kc, .ae, .bool true]:=b16.put
  have b27:Bx (h5.put h.n (.rw [kc, .ae, .bool true])) (h.n+1) _:=b26.iQ (by omega)
  have kr:Keep (az h.n) h5 (h5.put h.n (.rw [kc, .ae, .bool true])):=Keep.put _ _ _ rfl
  have K7:=K5.own kr (fun k q=>by have q:k=h.n:=q;omega)
  have o37:=o35.keep kr (fun k q1 q2=>by have q2:k=h.n:=q2;have:=lk k q1;omega)
  have Sr:allOne [kc, .ae, .bool true]=true:=aX o3.one.2 rfl rfl
  obtain ⟨l,p1,p2⟩:=fin (x:= .ae) K7 (by simp only [qZ];omega) b27 o37 (by rw [hov];exact ⟨rfl,rfl⟩) (fun k q=>q.elim)
  repeat first|refine ZA ?_|refine BV (au b16 rfl rfl) ?_|refine BV (dh b17 rfl (Nat.le_refl _)) ?_|refine BW (fQ b16 rfl rfl ⟨rfl,rfl⟩ (Nat.succ_lt_succ (Nat.zero_lt_succ _))) ?_|refine BW (aV b27 rfl rfl Sr rfl (Nat.le_refl _)) ?_|refine BP ?_|refine BQ ?_
  exact AT p1 p2
 |false=>
  rw [hg] at hov fin b16
  have Sr:allOne [kc,vc, .bool false]=true:=aX o3.one.2 o4.one.2 rfl
  obtain ⟨l,p1,p2⟩:=fin (x:=vc) K5 (by omega) b26 o35 (by rw [hov];exact o45) lv
  repeat first|refine ZA ?_|refine BV (au b16 rfl rfl) ?_|refine BV (dh b16 rfl (Nat.le_refl _)) ?_|refine BW (aV b26 rfl rfl Sr rfl (Nat.le_refl _)) ?_|refine BP ?_|refine BQ ?_
  exact AT p1 p2
end
end Am
end Go.Proofs.YtbnkdnlfdofepaaGreat
namespace Go.Proofs.YtbnkdnlfdofepaaGreat.aa2
open Go.RowKit
set_option maxRecDepth 100000
theorem uk:(Tryz.prog.info? 40).map (·.size)=some 3:=by kernel_rfl
set_option maxHeartbeats 400000 in
theorem qU (g s0 i m cap:Nat) (A0 Z:List Value) (xs:List Value) (ty:TypeId) (b o:Nat) (xb:Array Value) (tx:TypeId) (x:List Value) (w:World) (hg:Blk w g (A0++(xs.take (i*3)++(xs.drop (i*3)++Z))).toArray ty) (hA:A0.length=s0) (hlen:xs.length=(i+m)*3) (hcap:i+m < cap) (hcm:cap<=maxLen)
  (hZ:cap*3<=(i+m)*3+Z.length) (hb:Blk w b xb tx) (hne:g≠b) (hx:x.length=3) (hxc:∀j v,x[j]?=some v->w.cell? ⟨b,o+j,none⟩=some v) (hx1:∀u∈x,u.oneCell'=true) (hall:∀u∈xs,u.oneCell'=true) (hm:0 < m) (hn:i+m<=1099511627776):
  Calls Tryz.prog 111 #[.slice (some ⟨g,s0,none⟩) (i+m) cap, .int .i64 i, .slice (some ⟨b,o,none⟩) 1 1] w (fun e w'=>e= .returned (.slice (some ⟨g,s0,none⟩) (i+m+1) cap)/\
   (∃Z',Blk w' g (A0++((xs.take (i*3)++(x++xs.drop (i*3)))++Z')).toArray ty/\Z'.length+3=Z.length)/\Upd (fun k=>k=g) w w'):=by
 unfold maxLen at hcm
 have HB:=Lib.hid hb
 have HG:=Lib.hid hg
 have HA:=Lib.hid hall
 have HX:=Lib.hid hx1
 have HL:=Lib.hid hlen
 have HZ:=Lib.hid hZ
 have HN:=Lib.hid hne
 have H3:=Lib.hid hx
 have HC:=Lib.hid hxc
 have H0:=Lib.hid hA
 clear hb hg hall hx1 hlen hZ hne hx hxc hA
 go_enter Tryz.func111,Tryz.ntmps111
 go_wp2
 rw [run_callFunc_extern Tryz.func148 (by kernel_rfl) (by kernel_rfl) (by kernel_rfl) (e:=Extern.SlicesOverlaps.overlaps #[71,71] #[4]) (by kernel_rfl),
  Lib.run_overlaps_apart w 71 4 40 Tryz.underlying71 3 (fun _=>by kernel_rfl) _ _ _ _ _ _ (fun h=>HN.out h.symm) tx ty xb.size _ (HB.out.shape) (HG.out.shape) (by have:=HL.out;simp;omega) (HB.out.frozen _) (HB.out.frozen _)]
 simp only [Result.andThen]
 rw [Oper.upon_value]
 go_wp2
 have d1:(xs.drop (i*3)).length=m*3:=by have:=HL.out;simp;omega
 have D1:=Lib.hid d1
 clear d1
 have e1:IntKind.i64.wrap ((i:Int)+1)=(i:Int)+1:=IntWalk.i64_in _ (by omega)
 have e2:0<=(i:Int)+1:=by omega
 have e3:((i:Int)+1).toNat=i+1:=by omega
 have e4:(1:Int)<=(m:Int)+1:=by omega
 have e5:¬(cap=i+1):=by omega
 have e6:¬(cap=i):=by omega
 have e7:(i:Int)<=(i:Int)+(m:Int):=by omega
 have e8:(i:Int)<=(i:Int)+(m:Int)+1:=by omega
 obtain ⟨y0,y1,y2,t,hyt⟩:∃y0 y1 y2 t,xs.drop (i*3)=y0::y1::y2::t:=by
  have h1:=D1.out
  match h:xs.drop (i*3),h1 with
  |[],h1=>simp at h1;omega
  |[_],h1=>simp at h1;omega
  |[_,_],h1=>simp at h1;omega
  |y0::y1::y2::t,_=>exact ⟨y0,y1,y2,t,rfl⟩
 have hG2:Blk w g ((A0++(xs.take (i*3)++[y0,y1,y2]))++(t++Z)).toArray ty:=by
  have:=HG.out
  rw [hyt] at this
  simpa using this
 have hlt:(xs.take (i*3)).length=i*3:=by have:=HL.out;simp;omega
 have hG3:∀j v,(xs.drop (i*3))[j]?=some v->w.cell? ⟨g,s0+i*3+j,none⟩=some v:=by
  intro j v hv
  have hl:=HL.out
  have h0:=H0.out
  have hj:=(List.getElem?_eq_some_iff.1 hv).1
  rw [HG.out.cell,List.getElem?_toArray,List.getElem?_append_right (by omega),List.getElem?_append_right (by omega),hlt,h0,List.getElem?_append_left (by omega),show s0+i*3+j - s0 - i*3=j by omega]
  exact hv
 have hl3:t.length+3=m*3:=by have h2:=congrArg List.length hyt;rw [D1.out] at h2;simp at h2;omega
 have HG2:=Lib.hid hG2
 have HG3:=Lib.hid hG3
 have HY:=Lib.hid hyt
 have HL3:=Lib.hid hl3
 have HT:=Lib.hid hlt
 have d4:∀v∈xs.drop (i*3),v.oneCell'=true:=fun v hv=>HA.out v (List.mem_of_mem_drop hv)
 have D4:=Lib.hid d4
 clear d4 hG2 hG3 hyt hl3 hlt
 go_region_law (refine wK rfl (.tmp 73) (.tmp 76) 71 71 rfl 40 3 Tryz.underlying71 uk (by decide) (some ⟨g,s0+(i+1)*3,none⟩) m (cap - (i+1)) (by simp [Act.eval,Act.put]) (some ⟨g,s0+i*3,none⟩) (m+1) (cap - i) (by simp [Act.eval,Act.put];omega) g (s0+(i+1)*3) _ ty HG2.out.drew (xs.drop (i*3)) (by rw [D1.out];congr 1;simp [Nat.min_def]) (fun _=>⟨rfl,_,rfl,fun j v hj=>by rw [Addr.add_lit];exact HG3.out j v hj⟩) (by have h1:=D1.out;have h2:=HL.out;have h3:=HL3.out;have h4:=HZ.out;have h5:=H0.out;have h6:=HT.out;simp at h1 h6 ⊢;omega) D4.out ?_;intro w3 hb3 hu3)
 have hb4:Blk w3 g ((A0++xs.take (i*3))++(y0::y1::y2::(xs.drop (i*3)++(t++Z).drop (m*3)))).toArray ty:=by
  have:=gB hb3 (by have h5:=H0.out;have h6:=HT.out;simp at h6 ⊢;omega)
  rw [D1.out] at this
  simpa [List.append_assoc] using this
 have HB4:=Lib.hid hb4
 have HU3:=Lib.hid hu3
 have HQ:=Lib.hid (show (A0++xs.take (i*3)).length=s0+i*3 by have h5:=H0.out;have h6:=HT.out;simp at h6 ⊢;omega)
 clear hb3 hu3 hb4
 go_wp2_with ((with_reducible refine IK 82 ?_);(refine qH rfl _ _ _ _ rfl 40 3 Tryz.underlying71 uk (by decide) _ _ _ rfl _ _ _ rfl g (s0+i*3) _ ty HB4.out x ?c1 ?c2 ?c3 ?c4 ?_);rotate_right;intro w4 hb5 hu4;have HB5:=Lib.hid (gB hb5 HQ.out);have HU4:=Lib.hid hu4;clear hb5 hu4)
 case c1=>
  have:Nat.min 1 (i+m+1 - i)=1:=Nat.min_eq_left (by omega)
  rw [this,H3.out]
 case c2=>
  intro _ j v hv
  have h1:=HC.out j v hv
  rw [HB.out.cell] at h1
  have h2:=(HB.out.drew.upd HU3.out (fun h=>HN.out h.symm)).cell (o+j)
  rw [h1] at h2
  exact h2
 case c3=>have h1:=D1.out;have h2:=HL.out;have h3:=HL3.out;have h5:=H0.out;have h6:=HT.out;have h7:=H3.out;simp at h1 h6 ⊢;omega
 case c4=>exact HX.out
 have hb6:=HB5.out
 rw [H3.out] at hb6
 have HB6:=Lib.hid hb6
 have tZ:Upd (fun k=>k=g) w w4:=(((Upd.refl (fun k=>k=g) w).drew).trans HU3.out (fun k hk=> .inl hk)).trans HU4.out (fun k hk=> .inl hk)
 have HU:=Lib.hid tZ
 clear tZ hb6
 go_ret
 refine ⟨rfl,⟨(t++Z).drop (m*3), ?_, ?_⟩,HU.out⟩
 ·have:=HB6.out
  simpa [List.append_assoc] using this
 ·have h3:=HL3.out
  have h4:=HZ.out
  have h5:(i+m)*3+3<=cap*3:=by omega
  rw [List.length_drop,List.length_append]
  omega
end Go.Proofs.YtbnkdnlfdofepaaGreat.aa2
namespace Go.Proofs.YtbnkdnlfdofepaaGreat
namespace Am
open Go.RowKit
set_option maxRecDepth 100000
def zN:BF:=⟨95,[0,1,2,6,7,8,9,16,22,31,68],(.seq (.reg [mvS 3 (.mv (.const .ae))]) (.seq (.reg [ceS 10 0,ceS 11 1,mvE 12 (.sl 3 (eV 10) (some (eV 11)) none none)]) (.seq (.reg [ceS 13 2,lnE 14 13,csE 4 14]) (.seq (.seq (.reg [ceS 15 4,mvS 7 (.bin .eql .no (eV 15) (.const (.int .i64 0)))]) (.cond (sL 7) (.seq (.reg [ceS 17 0,csE 3 17]) .ret) .skip)) (.seq (.reg [ceS 18 0,lnE 19 18,csE 5 19]) (.seq (.seq (.reg [ceS 20 1,ceS 21 5,mvS 8 (.bin .eql .no (eV 20) (eV 21))]) (.cond (sL 8) (.seq (.reg [ceS 23 0,ceS 24 2,efE 25 (.append 3 56 (eV 23) (eV 24)),csE 3 25]) .ret) .skip)) (.seq (.seq (.reg [ceS 26 5,ceS 27 4,mvE 28 (.bin .add .no (eV 26) (eV 27)),ceS 29 0,mvE 30 (.DC (eV 29)),mvS 9 (.bin .gtr .no (eV 28) (eV 30))]) (.cond (sL 9) (.seq (.reg [ceS 32 0,ceS 33 1,mvE 34 (.sl 3 (eV 32) none (some (eV 33)) none),ceS 35 5,ceS 36 4,mvE 37 (.bin .add .no (eV 35) (eV 36)),ceS 38 1,mvE 39 (.bin .sub .no (eV 37) (eV 38)),efE 40 (.Aq 3 56 [.ae, .ae,(.bool false)] (eV 34) (eV 39)),csE 6 40]) (.seq (.reg [ceS 41 6,ceS 42 1,mvE 43 (.sl 3 (eV 41) (some (eV 42)) none none),ceS 44 2,efE 45 (.copy 3 (eV 43) (eV 44))]) (.seq (.iC [(ceS 46 6,[]),(ceS 47 1,[]),(ceS 48 4,[]),(mvE 49 (.bin .add .no (eV 47) (eV 48)),[]),(mvE 50 (.sl 3 (eV 46) (some (eV 49)) none none),[]),(ceS 51 0,[]),(ceS 52 1,[]),(mvE 53 (.sl 3 (eV 51) (some (eV 52)) none none),[]),(efE 54 (.copy 3 (eV 50) (eV 53)),[])]) (.seq (.reg [ceS 55 6,csE 3 55]) .ret)))) .skip)) (.seq (.reg [ceS 56 0,ceS 57 5,ceS 58 4,mvE 59 (.bin .add .no (eV 57) (eV 58)),mvE 60 (.sl 3 (eV 56) none (some (eV 59)) none),csE 0 60]) (.seq (.seq (.reg [ceS 61 2,ceS 62 0,ceS 63 1,ceS 64 4,mvE 65 (.bin .add .no (eV 63) (eV 64)),mvE 66 (.sl 3 (eV 62) (some (eV 65)) none none),clE 67 148 [eV 61,eV 66],mvS 10 (.jd (eV 67))]) (.cond (sL 10) (.seq (.iC [(ceS 69 0,[]),(ceS 70 1,[]),(ceS 71 4,[]),(mvE 72 (.bin .add .no (eV 70) (eV 71)),[]),(mvE 73 (.sl 3 (eV 69) (some (eV 72)) none none),[]),(ceS 74 0,[]),(ceS 75 1,[]),(mvE 76 (.sl 3 (eV 74) (some (eV 75)) none none),[]),(efE 77 (.copy 3 (eV 73) (eV 76)),[])]) (.seq (.reg [ceS 78 0,ceS 79 1,mvE 80 (.sl 3 (eV 78) (some (eV 79)) none none),ceS 81 2,efE 82 (.copy 3 (eV 80) (eV 81))]) (.seq (.reg [ceS 83 0,csE 3 83]) .ret))) .skip)) (.seq (.reg [ceS 84 0,ceS 85 5,mvE 86 (.sl 3 (eV 84) (some (eV 85)) none none),ceS 87 2,efE 88 (.copy 3 (eV 86) (eV 87))]) (.seq (.reg [ceS 89 0,ceS 90 1,mvE 91 (.sl 3 (eV 89) (some (eV 90)) none none),ceS 92 4,clE 93 149 [eV 91,eV 92]]) (.seq (.reg [ceS 94 0,csE 3 94]) .ret)))))))))))),[.slot (sL 3)]⟩
noncomputable def qC (R:List AV->Hp MD->AV->Hp MD->Prop):Fn MD:=fun _ args h=>open Classical in if H:∃p:AV×Hp MD,R args h p.1 p.2 then .ret H.choose.1 H.choose.2 else .bad
theorem Su {R:List AV->Hp MD->AV->Hp MD->Prop} {f:Nat} (hc:callable Tryz.prog f=true)
  (H:∀{args:List AV} {h:Hp MD} {r:AV} {h':Hp MD},R args h r h'->∀{w0 w:World} {m:Mu} {φ:Ph} {args':List Value},SR OD w0 w m φ h->VRs m args args'->Calls Tryz.prog f args'.toArray w (iy OD w0 m h (.ret r h'))):jD Tryz.prog OD f (qC R):=by
 refine ⟨hc,fun {D} hD args h hb {w0 w m φ args'} hs hv=> ?_⟩
 unfold qC at hb ⊢
 split at hb
 ·rename_i q
  rw [dif_pos q]
  exact H q.choose_spec hs hv
 ·exact absurd rfl hb
theorem X9 {E:Nat->Option (Ent MD)} (hE:∀f e,E f=some e->e.plain) {R:List AV->Hp MD->AV->Hp MD->Prop} {f:Nat} (hf:E f=some (.nat (qC R))) {args:List AV} {h:Hp MD} {Q:AV->Hp MD->Prop} {r:AV} {h':Hp MD} (hr:R args h r h') (hQ:∀r h',R args h r h'->Q r h'):WF (lim E) f args h Q:=by
 have q:∃p:AV×Hp MD,R args h p.1 p.2:=⟨(r,h'),hr⟩
 have e:∀D,qC R D args h= .ret q.choose.1 q.choose.2:=fun D=>by unfold qC;rw [dif_pos q]
 exact ⟨⟨_,_,(iP hE hf (D:=lim E) (by rw [e];intro q;cases q)).trans (e _),hQ _ _ q.choose_spec⟩⟩
def Sv (args:List AV) (h:Hp MD) (r:AV) (h':Hp MD):Prop:=∃(gx:Nat) (a b c:AV),h.get gx=some (.rw [a,b,c])/\
 (
   (args=[.ae, .int .i64 ((0:Nat):Int), .slice 3 gx 0 1 (some 1)]/\r= .slice 3 h.n 0 1 none/\h'=h.push (.rw [a,b,c]))\/
   ∃(g n i:Nat) (l:List AV),args=[.slice 3 g 0 n none, .int .i64 (i:Int), .slice 3 gx 0 1 (some 1)]/\h.get g=some (.rw l)/\l.length=n*3/\gx≠g/\i<=n/\n<=1000000/\0 < n/\
    r= .slice 3 h.n 0 (n+1) none/\h'=(h.del g).push (.rw (l.take (i*3)++([a,b,c]++l.drop (i*3)))))
section
variable {X:Type} {e:En} {t:List AV} {h:Hp X}
theorem Sz {z g o n c lo:Nat} {k:IntKind} {x y:Od} (hx:x.ev e t= .slice z g o n (some c)) (hy:y.ev e t= .int k (lo:Int)) (hl:lo<=n):(Mv.sl z x (some y) none none).ev e t h=some (.slice z g (o+lo*z) (n - lo) (some (c - lo))):=by
 simp only [Mv.ev,hx,slB,Nat.beq_refl,Bool.not_true,cond_false,oev,hy,jQ,dK hl,cond_true]
theorem EW {z g o n lo:Nat} {k:IntKind} {x y:Od} (hx:x.ev e t= .slice z g o n none) (hy:y.ev e t= .int k (lo:Int)) (hl:lo<=n):(Mv.sl z x (some y) none none).ev e t h=some (.slice z g (o+lo*z) (n - lo) none):=by
 simp only [Mv.ev,hx,slB,Nat.beq_refl,Bool.not_true,cond_false,oev,hy,jQ,dK hl,cond_true]
theorem aa3 {z g o n c hi:Nat} {k:IntKind} {x y:Od} (hx:x.ev e t= .slice z g o n (some c)) (hy:y.ev e t= .int k (hi:Int)) (hl:hi<=n):(Mv.sl z x none (some y) none).ev e t h=some (.slice z g (o+0*z) (hi - 0) (some (c - 0))):=by
 have hc:Ak h z g o n (some c) hi=true:=by unfold Ak;rw [dK hl];rfl
 simp only [Mv.ev,hx,slB,Nat.beq_refl,Bool.not_true,cond_false,oev,hy,jQ,hc,cond_true]
theorem Ib {z g o len m:Nat} {cap:Option Nat} {x y:Od} {w:AV} {l vs:List AV} (hx:x.ev e t= .slice z g o len cap) (hy:y.ev e t=w) (he:elems h z w=some (m,vs)) (hg:h.get g=some (.rw l)) (hm:min m len≠0) (hb:o+min m len*z<=l.length):
  (Ef.copy z x y).ev e t h=some (.int .i64 ((min m len:Nat):Int),h.put g (.rw (spl o (vs.take (min m len*z)) l))):=by
 simp only [Ef.ev,hy,he,hx,KR,Nat.beq_refl,cond_true,tY hm,cond_false,hg,dK hb]
theorem SA {z by' g o n c k:Nat} {zero vs:List AV} {kk:IntKind} {x y:Od} (hx:x.ev e t= .slice z g o n (some c)) (hy:y.ev e t= .int kk (k:Int)) (he:elems h z (.slice z g o n (some c))=some (n,vs)) (h1:c < n+k) (h2:0 < k) (h3:(n+k)*by'<=140737488355328) (h4:n+k<=maxLen):
  (Ef.Aq z by' zero x y).ev e t h=some (.slice z h.n 0 (n+k) none,h.push (.rw (vs++rep zero k))):=by
 have e1:Nat.blt c (n+k)=true:=by rw [Nat.blt_eq];exact h1
 have e2:Nat.blt 0 k=true:=by rw [Nat.blt_eq];exact h2
 simp only [Ef.ev,hx,hy,jQ,he,e1,e2,dK h3,dK h4,Bool.and_self,cond_true]
end
theorem SR.congr {O:dH} {w0 w:World} {m:Mu} {φ:Ph} {h h':Hp O.X} (H:SR O w0 w m φ h) (hg:∀k x,h'.get k=some x->h.get k=some x) (hn:h.n<=h'.n):SR O w0 w m φ h':=
 ⟨H.below,fun g c q=>H.blk g c (hg _ _ q),fun g g' c c' q1 q2=>H.dis g g' c c' (hg _ _ q1) (hg _ _ q2),fun g c q=>H.fresh g c (hg _ _ q),fun g p q=>Nat.lt_of_lt_of_le (H.dom g p q) hn⟩
noncomputable def E0:Nat->Option (Ent MD):=fun f=>if f=111 then some (.bc zN) else none
theorem SB:∀f e,E0 f=some e->e.plain:=fun f e h=>by
 unfold E0 at h
 split at h
 ·cases h;exact True.intro
 ·cases h
theorem SC:E0 111=some (.bc zN):=by unfold E0;rw [if_pos rfl]
theorem aa4:DS Tryz.prog OD (lim E0):=Jq fun f e h N=>by
 unfold E0 at h
 split at h
 ·rename_i hf
  cases h
  subst hf
  exact ai N (by kernel_rfl)
 ·cases h
theorem WI {i n:Nat} {l x R0:List AV} (hl:l.length=n*3) (hx:x.length=3) (hi:i<=n) (hR:R0.length=(n+1)*3) (hR0:R0.take (i*3)=l.take (i*3)):spl (0+(i+1)*3) (l.drop (i*3)) (spl (0+i*3) x R0)=l.take (i*3)++(x++l.drop (i*3)):=by
 unfold spl
 rw [Nat.zero_add,Nat.zero_add,hR0,hx]
 have h1:(l.take (i*3)).length=i*3:=by rw [List.length_take];omega
 have h2:(l.drop (i*3)).length=n*3 - i*3:=by rw [List.length_drop,hl]
 have h3:(List.take ((i+1)*3) (l.take (i*3)++(x++List.drop (i*3+3) R0)))=l.take (i*3)++x:=by rw [<-List.append_assoc];exact List.take_left' (by rw [List.length_append,h1,hx];omega)
 have h4:List.drop ((i+1)*3+(l.drop (i*3)).length) (l.take (i*3)++(x++List.drop (i*3+3) R0))=[]:=List.drop_eq_nil_of_le (by rw [List.length_append,List.length_append,h1,hx,h2,List.length_drop,hR];omega)
 rw [h3,h4,List.append_nil,List.append_assoc]
theorem WJ {h:Hp MD} {g n gx:Nat} {l:List AV} {a b c:AV} (hg:h.get g=some (.rw l)) (hl:l.length=n*3) (hx:h.get gx=some (.rw [a,b,c])) (hgl:g < h.n) (hn:n<=1000000):
  WF (lim E0) 111 [.slice 3 g 0 n none, .int .i64 n, .slice 3 gx 0 1 (some 1)] h fun r h'=>r= .slice 3 h.n 0 (n+1) none/\h'=(h.del g).push (.rw (l++[a,b,c])):=by
 refine aC SB SC rfl ?_
 simp only [zN,mvE,mvS,clE,efE,ceS,ceE,csE,faE,nlE,ldE,lnE,exE,eV,sL,kI,List.map,getS]
 have hmx:(maxLen:Nat)=9223372036854775807:=rfl
 have he:elems h 3 (.slice 3 gx 0 1 (some 1))=some (1,[a,b,c]):=by
  simp only [elems,Nat.beq_refl,cond_true,eF hx]
  rfl
 have Zy:∀{e:En} {t:List AV} {x y:Od},x.ev e t= .slice 3 g 0 n none->y.ev e t= .slice 3 gx 0 1 (some 1)->(Ef.append 3 56 x y).ev e t h=some (.slice 3 h.n 0 (n+1) none,(h.del g).push (.rw (l++[a,b,c]))):=fun {e t x y} h1 h2=>by
  have e1:Nat.ble (0+(n+1)*3) l.length=false:=by
   cases hb:Nat.ble (0+(n+1)*3) l.length with
   |false=>rfl
   |true=>have:=Nat.le_of_ble_eq_true hb;omega
  have e2:takeN (n*3) 0 l=some l:=by unfold takeN;rw [dK (by omega),cond_true,List.drop_zero,<-hl,List.take_length]
  have e3:appA h 3 56 (.slice 3 g 0 n none) 1 [a,b,c]=some (.slice 3 h.n 0 (n+1) none,(h.del g).push (.rw (l++[a,b,c]))):=by
   unfold appA
   have hm':Nat.beq 1 0=false:=rfl
   have hc:(Nat.beq 3 3 && Nat.ble ((n+1)*56) 140737488355328 && Nat.ble (n+1) maxLen)=true:=by rw [Nat.beq_refl,dK (by omega),dK (by omega)];rfl
   rw [hm']
   simp only [cond_false,hc,Bool.not_true,hg,e1,e2]
  simp only [Ef.ev,h1,h2,he,e3]
 repeat first|refine ZA ?_|refine BV (EW rfl rfl (Nat.le_refl _)) ?_|refine BW (Zy rfl rfl) ?_|refine BP ?_|refine BQ ?_
 exact ⟨rfl,rfl⟩
set_option maxHeartbeats 4000000 in
theorem SE {h:Hp MD} {g n gx i:Nat} {l:List AV} {a b c:AV} (hg:h.get g=some (.rw l)) (hl:l.length=n*3) (hx:h.get gx=some (.rw [a,b,c])) (hgl:g < h.n) (hxl:gx < h.n) (hi:i < n) (hn:n<=1000000):
  WF (lim E0) 111 [.slice 3 g 0 n (some n), .int .i64 i, .slice 3 gx 0 1 (some 1)] h fun r h'=>r= .slice 3 h.n 0 (n+1) none/\h'.n=h.n+1/\h'.get h.n=some (.rw (l.take (i*3)++([a,b,c]++l.drop (i*3))))/\∀k,k≠h.n->h'.get k=h.get k:=by
 refine aC SB SC rfl ?_
 simp only [zN,mvE,mvS,clE,efE,ceS,ceE,csE,faE,nlE,ldE,lnE,exE,eV,sL,kI,List.map,getS]
 have hmx:(maxLen:Nat)=9223372036854775807:=rfl
 have hgn:¬((i:Int)=n):=by omega
 have gt:((n:Int) < (n:Int)+((1:Nat):Int)):=by omega
 have hsub:((n:Int)+((1:Nat):Int) - (i:Int))=((n+1 - i:Nat):Int):=by omega
 have hs1:((i:Int)+((1:Nat):Int))=((i+1:Nat):Int):=by omega
 have he0:elems h 3 (.slice 3 g (0+0*3) (i - 0) (some (n - 0)))=some (i - 0,l.take (i*3)):=by
  have:takeN ((i - 0)*3) (0+0*3) l=some (l.take (i*3)):=by unfold takeN;rw [dK (by omega)];simp
  simp only [elems,Nat.beq_refl,cond_true,eF hg,this]
 have R0:Bx (h.push (.rw (l.take (i*3)++rep [.ae, .ae, .bool false] (n+1 - i)))) h.n _:=aH
 have R0l:(l.take (i*3)++rep [.ae, .ae, .bool false] (n+1 - i)).length=(n+1)*3:=by
  rw [List.length_append,sH,List.length_take]
  simp
  omega
 have R0t:(l.take (i*3)++rep [.ae, .ae, .bool false] (n+1 - i)).take (i*3)=l.take (i*3):=List.take_left' (by rw [List.length_take];omega)
 have hx0:(h.push (.rw (l.take (i*3)++rep [.ae, .ae, .bool false] (n+1 - i)))).get gx=some (.rw [a,b,c]):=by rw [Hp.yg _ _ (by omega)];exact hx
 have hg0:(h.push (.rw (l.take (i*3)++rep [.ae, .ae, .bool false] (n+1 - i)))).get g=some (.rw l):=by rw [Hp.yg _ _ (by omega)];exact hg
 have ab1:=WI (x:=[a,b,c]) hl rfl (by omega) R0l R0t
 obtain ⟨h1,hh1⟩:∃h1:Hp MD,h1=h.push (.rw (l.take (i*3)++rep [.ae, .ae, .bool false] (n+1 - i))):=⟨_,rfl⟩
 have hn1:h1.n=h.n+1:=by rw [hh1];rfl
 have hk1:∀k,k≠h.n->h1.get k=h.get k:=fun k hk=>by rw [hh1,Hp.yg _ _ hk]
 rw [<-hh1] at R0 hx0 hg0
 generalize hR0:l.take (i*3)++rep [.ae, .ae, .bool false] (n+1 - i)=R at*
 have e1:elems h1 3 (.slice 3 gx 0 1 (some 1))=some (1,[a,b,c]):=by
  simp only [elems,Nat.beq_refl,cond_true,eF hx0]
  rfl
 have hg2:(h1.put h.n (.rw (spl (0+i*3) [a,b,c] R))).get g=some (.rw l):=by rw [Hp.iQ _ _ _ (by omega)];exact hg0
 have e2:elems (h1.put h.n (.rw (spl (0+i*3) [a,b,c] R))) 3 (.slice 3 g (0+i*3) (n - i) (some (n - i)))=some (n - i,l.drop (i*3)):=by
  have:takeN ((n - i)*3) (0+i*3) l=some (l.drop (i*3)):=by
   unfold takeN
   rw [dK (by omega),cond_true,Nat.zero_add,List.take_of_length_le (by rw [List.length_drop];omega)]
  simp only [elems,Nat.beq_refl,cond_true,eF hg2,this]
 have Rl1:(spl (0+i*3) [a,b,c] R).length=(n+1)*3:=by rw [GM (by simp;omega),R0l]
 have hm:min (n - i) (i - 0+(n+1 - i) - (i+1))=n - i:=by omega
 have ab2:∀{e:En} {t:List AV} {x y:Od},x.ev e t= .slice 3 h.n (0+i*3) (i - 0+(n+1 - i) - i) none->y.ev e t= .slice 3 gx 0 1 (some 1)->(Ef.copy 3 x y).ev e t h1=some (.int .i64 1,h1.put h.n (.rw (spl (0+i*3) [a,b,c] R))):=fun {e t x y} q1 q2=>by
  have hm1:min 1 (i - 0+(n+1 - i) - i)=1:=by omega
  have:=Ib (h:=h1) q1 q2 e1 R0.get (by omega) (by omega)
  rw [hm1] at this
  exact this
 have ab3:∀{e:En} {t:List AV} {x y:Od},x.ev e t= .slice 3 h.n (0+(i+1)*3) (i - 0+(n+1 - i) - (i+1)) none->y.ev e t= .slice 3 g (0+i*3) (n - i) (some (n - i))->(Ef.copy 3 x y).ev e t (h1.put h.n (.rw (spl (0+i*3) [a,b,c] R)))=some (.int .i64 ((n - i:Nat):Int),(h1.put h.n (.rw (spl (0+i*3) [a,b,c] R))).put h.n (.rw (l.take (i*3)++([a,b,c]++l.drop (i*3))))):=fun {e t x y} q1 q2=>by
  have:=Ib (h:=h1.put h.n (.rw (spl (0+i*3) [a,b,c] R))) q1 q2 e2 (Hp.bW _ _ _) (by omega) (by rw [Rl1];omega)
  rw [hm,List.take_of_length_le (by rw [List.length_drop];omega),ab1] at this
  exact this
 have va:∀{hh:Hp MD} {e:En} {t:List AV} {q:Eq} {x y:Od},x.ev e t= .int .i64 i->y.ev e t= .int .i64 ((1:Nat):Int)->(Mv.bin .add q x y).ev e t hh=some (.int .i64 ((i+1:Nat):Int)):=fun q1 q2=>by rw [<-hs1];exact rf q1 q2 rfl (by omega)
 have ab4:∀{e:En} {t:List AV} {x y:Od},x.ev e t= .slice 3 g (0+0*3) (i - 0) (some (n - 0))->y.ev e t= .int .i64 ((n:Int)+((1:Nat):Int) - i)->(Ef.Aq 3 56 [.ae, .ae, .bool false] x y).ev e t h=some (.slice 3 h.n 0 (i - 0+(n+1 - i)) none,h1):=fun {e t x y} q1 q2=>by
  have:=SA (e:=e) (t:=t) (h:=h) (by':=56) (zero:=[.ae, .ae, .bool false]) (kk:= .i64) (y:=y) (k:=n+1 - i) q1 (by rw [q2,hsub]) he0 (by omega) (by omega) (by omega) (by omega)
  rw [this,hh1,hR0]
 repeat first|refine ZA ?_|refine BV (Sz rfl rfl (by omega)) ?_|refine BV (aa3 rfl rfl (by omega)) ?_|refine BV (EW rfl rfl (by omega)) ?_|refine BW (ab4 rfl rfl) ?_|refine BW (ab2 rfl rfl) ?_|refine BP ?_|refine BQ ?_
 repeat first|refine ZI ?_|refine CB (va rfl rfl) ?_|refine CB (Sz rfl rfl (by omega)) ?_|refine CB (EW rfl rfl (by omega)) ?_|refine BV (va rfl rfl) ?_|refine BV (Sz rfl rfl (by omega)) ?_|refine BV (EW rfl rfl (by omega)) ?_|refine BP ?_|refine BQ ?_|refine CC ?_
 refine rD (ab3 rfl rfl) aW ?_
 repeat first|refine ZI ?_|refine BP ?_|refine BQ ?_|refine CC ?_
 refine ⟨(show AV.slice 3 h.n 0 (i - 0+(n+1 - i)) none= .slice 3 h.n 0 (n+1) none by rw [show i - 0+(n+1 - i)=n+1 by omega]),by simp only [qZ];exact hn1,Hp.bW _ _ _,fun k hk=> ?_⟩
 rw [Hp.iQ _ _ _ hk,Hp.iQ _ _ _ hk,hk1 k hk]
theorem WL {α:Type} {l x:List α} {p:Nat} (h:∀j u,x[j]?=some u->l[p+j]?=some u) (hp:p+x.length<=l.length):l=l.take p++(x++l.drop (p+x.length)):=by
 have e:(l.drop p).take x.length=x:=by
  apply List.ext_getElem?
  intro j
  by_cases hj:j < x.length
  ·rw [List.getElem?_take_of_lt hj,List.getElem?_drop,h j _ (List.getElem?_eq_getElem hj),List.getElem?_eq_getElem hj]
  ·rw [List.getElem?_eq_none (by rw [List.length_take];omega),List.getElem?_eq_none (by omega)]
 have e2:l.drop p=x++l.drop (p+x.length):=by rw [<-List.drop_drop];conv=>lhs;rw [<-List.take_append_drop x.length (l.drop p),e]
 rw [<-e2,List.take_append_drop]
theorem WM {h:Hp MD} {gx:Nat} {a b c:AV} (hx:h.get gx=some (.rw [a,b,c])):
  WF (lim E0) 111 [.ae, .int .i64 ((0:Nat):Int), .slice 3 gx 0 1 (some 1)] h fun r h'=>r= .slice 3 h.n 0 1 none/\h'=h.push (.rw [a,b,c]):=by
 refine aC SB SC rfl ?_
 simp only [zN,mvE,mvS,clE,efE,ceS,ceE,csE,faE,nlE,ldE,lnE,exE,eV,sL,kI,List.map,getS]
 have he:elems h 3 (.slice 3 gx 0 1 (some 1))=some (1,[a,b,c]):=by
  simp only [elems,Nat.beq_refl,cond_true,eF hx]
  rfl
 have Zy:∀{e:En} {t:List AV} {x y:Od},x.ev e t= .ae->y.ev e t= .slice 3 gx 0 1 (some 1)->(Ef.append 3 56 x y).ev e t h=some (.slice 3 h.n 0 1 none,h.push (.rw [a,b,c])):=fun {e t x y} h1 h2=>by
  simp only [Ef.ev,h1,h2,he]
  rfl
 repeat first|refine ZA ?_|refine BW (Zy rfl rfl) ?_|refine BP ?_|refine BQ ?_
 exact ⟨rfl,rfl⟩
theorem xw {f:Nat} {args:List AV} {h:Hp MD} {r:AV} {h1:Hp MD} (hr:lim E0 f args h= .ret r h1) {w0 w:World} {m:Mu} {φ:Ph} {args':List Value} (hs:SR OD w0 w m φ h) (hv:VRs m args args'):Calls Tryz.prog f args'.toArray w (iy OD w0 m h (.ret r h1)):=by
 have:=(aa4 f args h (fun q=>by have:=hr.symm.trans q;cases this)).2 hs hv
 have key:iy OD w0 m h (lim E0 f args h)=iy OD w0 m h (.ret r h1):=congrArg _ hr
 exact key▸this
set_option maxHeartbeats 4000000 in
theorem aa5:jD Tryz.prog OD 111 (qC Sv):=by
 refine Su (by kernel_rfl) fun {args h r h'} hR {w0 w m φ args'} hs hv=> ?_
 obtain ⟨gx,a,b,c,hx,hR⟩:=hR
 rcases hR with ⟨rfl,rfl,rfl⟩|⟨g,n,i,l,rfl,hg,hl,hgx,hin,hn,hn0,rfl,rfl⟩
 ·obtain ⟨r,h1,e,rfl,rfl⟩:=(WM hx).out
  exact xw e hs hv
 obtain ⟨v',iv',vx',rfl,hv1,hv2,hv3⟩:=VU hv
 have ab5:=hv1
 simp only [VR] at hv1
 obtain ⟨p,ad,cc,q1,rfl,q3,q4,q5,⟨q6,q7⟩,q8⟩:=hv1
 have hgl:=hs.dom g p q1
 by_cases hi:i=n
 ·subst hi
  obtain ⟨r,h1,e,rfl,rfl⟩:=(WJ hg hl hx hgl hn).out
  have:=xw e hs hv
  rw [List.take_of_length_le (by omega),List.drop_eq_nil_of_le (by omega),List.append_nil]
  exact this
 have aa6:=hv3
 simp only [VR] at hv2 hv3
 subst hv2
 obtain ⟨px,adx,ccx,x1,rfl,_,_,x4,⟨_,x5⟩,x6⟩:=hv3
 subst x6
 have x4:=x4 (by omega)
 subst x4
 have hxl:=hs.dom gx px x1
 by_cases hc:cc=n
 ·subst hc
  obtain ⟨r,h1,e,rfl,e2,e3,e4⟩:=(SE (i:=i) hg hl hx hgl hxl (by omega) hn).out
  have hva:VRs m [.slice 3 g 0 cc (some cc), .int .i64 (i:Int), .slice 3 gx 0 1 (some 1)] [.slice (some ad) cc cc, .int .i64 (i:Int), .slice (some ⟨px.b,px.s+0,none⟩) 1 1]:=by
   simp only [VRs]
   refine ⟨_,_,rfl, ?_,_,_,rfl,by simp only [VR],_,_,rfl,aa6,rfl⟩
   simp only [VR]
   exact ⟨p,ad,cc,q1,rfl,q3,q4,q5,⟨q6,q7⟩,rfl⟩
  refine (xw e hs hva).mono fun en w' hd=> ?_
  obtain ⟨m',φ',v',d1,d2,d3,d4,d5⟩:=hd
  refine ⟨m',φ',v',d1,by show h.n<=h.n+1;omega,d3.congr (fun k x hk=> ?_) (by show h1.n<=h.n+1;omega),d4,d5⟩
  rcases Hp.fO hk with ⟨rfl,rfl⟩|⟨hk1,hk2⟩
  ·exact e3
  ·have hk1:k≠h.n:=hk1
   exact (e4 k hk1).trans (Hp.su hk2).2
 have hcn:n < cc:=by omega
 have q5:=q5 (by omega)
 subst q5
 obtain ⟨m2,rfl⟩:∃m2,n=i+m2:=⟨n - i,by omega⟩
 obtain ⟨cs,ty,fz,b1,b2,b3,b4,b5,b6,b7⟩:=hs.blk g _ hg p q1
 have b7:=b7 (by omega)
 subst b7
 obtain ⟨csx,tyx,fzx,y1,y2,y3,y4,y5,y6,y7⟩:=hs.blk gx _ hx px x1
 have y7:=y7 (by omega)
 subst y7
 have he:elems h 3 (.slice 3 g 0 (i+m2) none)=some (i+m2,l):=by
  have:takeN ((i+m2)*3) 0 l=some l:=by unfold takeN;rw [dK (by omega),cond_true,List.drop_zero,<-hl,List.take_length]
  simp only [elems,Nat.beq_refl,cond_true,eF hg,this]
 have hex:elems h 3 (.slice 3 gx 0 1 (some 1))=some (1,[a,b,c]):=by
  simp only [elems,Nat.beq_refl,cond_true,eF hx]
  rfl
 obtain ⟨ad2,c2,xs,z1,_,_,z4,z5,_,z7,_,z9⟩:=jf hs he ab5
 obtain ⟨ad3,c3,ys,t1,_,_,t4,t5,_,t7,_,t9⟩:=jf hs hex aa6
 simp only [Value.slice.injEq] at z1 t1
 obtain ⟨rfl,_,rfl⟩:=z1
 obtain ⟨rfl,_,rfl⟩:=t1
 have z9:=z9 _ rfl
 have t9:=t9 _ rfl
 have hblk:Blk w p.b cs ty:=b1
 have ab6:Blk w px.b csx tyx:=y1
 have hat:∀(j:Nat) u,xs[j]?=some u->cs.toList[p.s+j]?=some u:=fun j u hu=>by
  have:=z9 j u hu
  rw [Addr.add_lit,hblk.cell] at this
  simpa using this
 have hsz:p.s+xs.length<=cs.toList.length:=by rw [z5,Array.length_toList];omega
 have hcs:=WL hat hsz
 have hblk2:Blk w p.b (cs.toList.take p.s++(xs.take (i*3)++(xs.drop (i*3)++cs.toList.drop (p.s+xs.length)))).toArray ty:=by
  have e:cs=(cs.toList.take p.s++(xs.take (i*3)++(xs.drop (i*3)++cs.toList.drop (p.s+xs.length)))).toArray:=by
   apply Array.ext'
   rw [<-List.append_assoc (xs.take (i*3)),List.take_append_drop]
   exact hcs
  rw [<-e]
  exact hblk
 have hne:p.b≠px.b:=fun e=>hs.dis g gx _ _ hg hx (Ne.symm hgx) rfl rfl (by rw [q1];rfl) (by rw [x1];rfl) p.b ((b6 _).2 rfl) ((y6 _).2 e)
 have hA:(cs.toList.take p.s).length=p.s:=by rw [List.length_take];omega
 have hZl:(cs.toList.drop (p.s+xs.length)).length=cs.size - (p.s+xs.length):=by rw [List.length_drop,Array.length_toList]
 have hq8:p.s+0+cc*p.z=p.e:=q8
 rw [q7] at hq8
 have hcall:=aa2.qU p.b p.s i m2 cc (cs.toList.take p.s) (cs.toList.drop (p.s+xs.length)) xs ty px.b (px.s+0) csx tyx ys w hblk2 hA z5 (by omega) q4 (by rw [hZl,z5];omega) ab6 hne t5 (fun j u hj=>by have:=t9 j u hj;rwa [Addr.add_lit] at this) (t4.sG t7) (z4.sG z7) (by omega) (by omega)
 refine hcall.mono fun en w' hd=> ?_
 obtain ⟨rfl,⟨Z',d1,d2⟩,d3⟩:=hd
 have hVL:VRs m (l.take (i*3)++([a,b,c]++l.drop (i*3))) (xs.take (i*3)++(ys++xs.drop (i*3))):=VRs.append (z4.take _) (VRs.append t4 (z4.drop _))
 have hOL:∀u∈l.take (i*3)++([a,b,c]++l.drop (i*3)),u.one=true:=fun u hu=>by
  rcases List.mem_append.1 hu with hu|hu
  ·exact z7 u (List.mem_of_mem_take hu)
  ·rcases List.mem_append.1 hu with hu|hu
   ·exact t7 u hu
   ·exact z7 u (List.mem_of_mem_drop hu)
 have hLl:(l.take (i*3)++([a,b,c]++l.drop (i*3))).length=(i+m2+1)*3:=by
  rw [List.length_append,List.length_append,List.length_take,List.length_drop,hl]
  simp
  omega
 have hXl:(xs.take (i*3)++(ys++xs.drop (i*3))).length=(i+m2+1)*3:=by rw [hVL.len,hLl]
 have tZ:Upd (φ g) w w':=d3.mono fun k hk=> .inl ((b6 k).2 hk)
 have hbk:mO OD w0 w' (m.set h.n ⟨p.b,p.s,p.e,3⟩) ⟨p.b,p.s,p.e,3⟩ (fun k=>k=p.b) (.rw (l.take (i*3)++([a,b,c]++l.drop (i*3)))):=by
  refine ⟨_,ty,(0,0),d1, .inl rfl, ?_, ?_,fun j u hj=> ?_,fun _=>Iff.rfl,fun _=>rfl⟩
  ·rw [List.size_toArray,List.length_append,List.length_append,hA,hXl]
   show p.e<=_
   omega
  ·show p.s+_<=p.e
   omega
  ·obtain ⟨u',f1,f2⟩:=hVL.get hj
   have hjl:=(List.getElem?_eq_some_iff.1 f1).1
   refine ⟨u', ?_,f2.ext (Mu.iK hs.lK _),hOL u (List.mem_of_getElem? hj)⟩
   show (_:Array Value)[p.s+j]?=some u'
   rw [List.getElem?_toArray,List.getElem?_append_right (by omega),hA,show p.s+j - p.s=j by omega,List.getElem?_append_left hjl]
   exact f1
 refine ⟨m.set h.n ⟨p.b,p.s,p.e,3⟩,_, .slice (some ⟨p.b,p.s,none⟩) (i+m2+1) cc,fun k hk=>by simp [Mu.set];omega,by show h.n<=h.n+1;omega,hs.move hg rfl q1 (S':=fun k=>k=p.b) tZ hbk rfl (fun k hk=> .inl ((b6 k).2 hk)), ?_,rfl⟩
 simp only [VR]
 exact ⟨_,⟨p.b,p.s,none⟩,cc,Mu.set_self _ _ _,rfl,by omega,q4,fun _=>rfl,⟨Nat.succ_pos 2,rfl⟩,by show p.s+0+cc*3=p.e;omega⟩
def T.map {α β:Type} (f:Option α->Option β):T α->T β
 | .nil=> .nil
 | .node l v r=> .node (l.map f) (f v) (r.map f)
theorem T.get_map {α β:Type} {f:Option α->Option β} (hf:f none=none):∀(k:Nat) (t:T α) (n:Nat),(t.map f).get k n=f (t.get k n)
 |0,_,_=>hf.symm
 |k+1,t,n=>by
  rw [T.jR,T.jR]
  have e1:(t.map f).vl=f t.vl:=by cases t<;>first|exact hf.symm|rfl
  have e2:(t.map f).lf=t.lf.map f:=by cases t<;>rfl
  have e3:(t.map f).rt=t.rt.map f:=by cases t<;>rfl
  by_cases h1:n=0
  ·rw [if_pos h1,if_pos h1,e1]
  ·rw [if_neg h1,if_neg h1]
   by_cases h2:n % 2=0
   ·rw [if_pos h2,if_pos h2,e2,T.get_map hf k]
   ·rw [if_neg h2,if_neg h2,e3,T.get_map hf k]
section
variable {X:Type}
def roB:Option (AB X)->Option (AB X)
 |some (.rw l)=>some (.ro l)
 |some (.ro l)=>some (.ro l)
 |_=>none
def Hp.frz (h:Hp X):Hp X:=⟨h.t.map roB,h.n⟩
theorem EX (h:Hp X) (k:Nat):h.frz.get k=roB (h.get k):=T.get_map rfl _ _ _
theorem WN {h:Hp X} {g:Nat} {l:List AV} (e:rowOf h g=some l):rowOf h.frz g=some l:=by
 unfold rowOf at e ⊢
 rw [EX]
 split at e
 ·rename_i q;cases e;rw [q];rfl
 ·rename_i q;cases e;rw [q];rfl
 ·cases e
theorem RS.frz {h:Hp X} {z n:Nat} {v:AV} {cells:List AV} (a:RS h z v n cells):RS h.frz z v n cells:=by
 cases v<;>first|exact a|skip
 obtain ⟨h1,h2,h3,l,h4,h5⟩:=a
 exact ⟨h1,h2,h3,l,WN h4,h5⟩
theorem eH.frz {h:Hp X} {q:T3} {e:EM} (a:eH h q e):eH h.frz q e:=⟨a.gone,a.key.frz,a.val.frz,a.nse⟩
theorem aN.frz {h:Hp X} {v:AV} {l:List EM} {F:Nat->Prop} (a:aN h v l F):aN h.frz v l F:=by
 obtain ⟨tri,h1,h2,h3,h4⟩:=a.out
 exact ⟨tri,h1.frz,h2,fun i q e q1 q2=>(h3 i q e q1 q2).frz,h4⟩
end
structure InR (O:dH) (W:World) (m:Mu) (h:Hp O.X):Prop where
 sr:SR O W W m (fun _ _=>False) h
 ro:∀k c,h.get k=some c->∃l,c= .ro l
section
variable {O:dH} {W:World} {m:Mu} {h:Hp O.X}
theorem JH {h:Hp O.X}:∀k c,h.frz.get k=some c->∃l,c= .ro l:=fun k c hk=>by
 rw [EX] at hk
 unfold roB at hk
 split at hk
 ·cases hk;exact ⟨_,rfl⟩
 ·cases hk;exact ⟨_,rfl⟩
 ·cases hk
theorem InR.of {w0 w:World} {φ:Ph} (H:SR O w0 w m φ h):InR O w m h.frz:=by
 refine ⟨⟨Below.refl _ _,fun g c hg p hp=> ?_,fun g g' c c' h1 h2 _ o1 _ _ _=> ?_,fun g c h1 o1 _=> ?_,H.dom⟩,JH⟩
 ·rw [EX] at hg
  cases e:h.get g with
  |none=>rw [e] at hg;cases hg
  |some b=>
   rw [e] at hg
   cases b with
   |rw l=>
    cases hg
    obtain ⟨cs,ty,fz,h1,_,h3,h4,h5,_⟩:=H.blk g _ e p hp
    exact ⟨lt_of_block h1,h4,fun i v hi=>by
     obtain ⟨v',q1,q2,q3⟩:=h5 i v hi
     exact ⟨v',by simpa [World.cell?,h1] using q1,q2,q3⟩⟩
   |ro l=>
    cases hg
    obtain ⟨h1,h2,h3⟩:=H.blk g _ e p hp
    exact ⟨Nat.lt_of_lt_of_le h1 H.below.size,h2,fun i v hi=>by
     obtain ⟨v',q1,q2,q3⟩:=h3 i v hi
     exact ⟨v',(H.below.cell (p:=⟨p.b,p.s+i,none⟩) h1).trans q1,q2,q3⟩⟩
   |obj x=>cases hg
 ·obtain ⟨l,rfl⟩:=JH _ _ h1;cases o1
 ·obtain ⟨l,rfl⟩:=JH _ _ h1;cases o1
theorem InR.below {W':World} (H:InR O W m h) (hb:Below W.heap.size W W'):InR O W' m h:=by
 refine ⟨⟨Below.refl _ _,fun g c hg p hp=> ?_,fun g g' c c' h1 h2 _ o1 _ _ _=> ?_,fun g c h1 o1 _=> ?_,H.sr.dom⟩,H.ro⟩
 ·obtain ⟨l,rfl⟩:=H.ro _ _ hg
  obtain ⟨h1,h2,h3⟩:=H.sr.blk g _ hg p hp
  exact ⟨Nat.lt_of_lt_of_le h1 hb.size,h2,fun i v hi=>by
   obtain ⟨v',q1,q2,q3⟩:=h3 i v hi
   exact ⟨v',(hb.cell (p:=⟨p.b,p.s+i,none⟩) h1).trans q1,q2,q3⟩⟩
 ·obtain ⟨l,rfl⟩:=H.ro _ _ h1;cases o1
 ·obtain ⟨l,rfl⟩:=H.ro _ _ h1;cases o1
theorem InR.call {h:Hp MD} {E:Nat->Option (Ent MD)} (hD:DS Tryz.prog OD (lim E)) (H:InR OD W m h) {f:Nat} {args:List AV} {Q:AV->Hp MD->Prop} (hw:WF (lim E) f args h Q) {args':List Value} (hv:VRs m args args'):
  Calls Tryz.prog f args'.toArray W fun e w'=>∃r h' m' φ' v',e= .returned v'/\Q r h'/\SR OD W w' m' φ' h'/\VR m' r v':=by
 obtain ⟨r,h1,hr,hq⟩:=hw.out
 refine (((hD f args h (fun q=>by have:=hr.symm.trans q;cases this)).2 H.sr hv).mono fun e w' hp=> ?_)
 have key:iy OD W m h (lim E f args h)=iy OD W m h (.ret r h1):=congrArg _ hr
 rw [key] at hp
 obtain ⟨m',φ',v',_,_,h3,h4,h5⟩:=hp
 exact ⟨r,h1,m',φ',v',h5,hq,h3,h4⟩
end
theorem aa7 {O:dH} {w0 w:World} {m:Mu} {φ:Ph} {h:Hp O.X} (H:SR O w0 w m φ h) {o:AV} {bs:List UInt8} (ho:OS h 1 o bs.length (bs.map ub)) {v:Value} (hv:VR m o v):Rd w 1 v bs.length (bs.map bv):=by
 obtain ⟨ad,c,vs,rfl,h1,h2,h3,h4,h5,h6,h7,h8⟩:=jf H ho.rs.elems hv
 have e:vs=bs.map bv:=by
  clear h4 h5 h6 h7 h8 ho hv h1
  induction bs generalizing vs with
  |nil=>simp only [List.map_nil,VRs] at h3;subst h3;rfl
  |cons x bs ih=>
   simp only [List.map_cons,VRs] at h3
   obtain ⟨v,vs',rfl,q1,q2⟩:=h3
   simp only [ub,VR] at q1
   rw [List.map_cons,ih _ q2,q1]
   rfl
 subst e
 refine ⟨by rw [List.length_map];omega,by omega,ad,c,rfl,h1,h2,h7,fun a ha=>⟨fun hn=> ?_,h8 a ha⟩⟩
 subst ha
 cases o<;>first|exact ho.elim|skip
 ·simp only [VR] at hv
  obtain ⟨p,ad',c',q1,q2,q3,q4,q5,_⟩:=hv
  simp only [Value.slice.injEq,Option.some.injEq] at q2
  obtain ⟨rfl,rfl,rfl⟩:=q2
  rw [q5 (by omega)]
 ·simp only [VR] at hv;cases hv
theorem Ya:∀(t:List T3) (k:Nat),(t.drop k).flatMap f3=(t.flatMap f3).drop (k*3)
 |_,0=>by simp
 |[],_+1=>by simp
 |q::t,k+1=>by
  rw [List.drop_succ_cons,Ya t k,List.flatMap_cons,show (k+1)*3=3+k*3 by omega,<-List.drop_drop]
  rfl
theorem Yb:∀(t:List T3) (k:Nat),(t.take k).flatMap f3=(t.flatMap f3).take (k*3)
 |_,0=>by simp
 |[],_+1=>by simp
 |q::t,k+1=>by
  rw [List.take_succ_cons,List.flatMap_cons,Yb t k,List.flatMap_cons,show (k+1)*3=3+k*3 by omega,List.take_add]
  rfl
theorem aN.part {X:Type} {h:Hp X} {z g o n:Nat} {cap:Option Nat} {l:List EM} {F:Nat->Prop} (a:aN h (.slice z g o n cap) l F) {k:Nat} (hk:8*k<=l.length):aN h (.slice 3 g (o+24*k) (bZ l k).length (some (bZ l k).length)) (bZ l k) F:=by
 obtain ⟨tri,h1,h2,h3,h4,h5⟩:=a.out
 obtain ⟨rfl,rfl,q3,row,q4,q5,q6⟩:=h1
 have hpl:=wo l k
 refine ⟨(tri.drop (8*k)).take 8, ?_, ?_,fun i q e q1 q2=> ?_,fun j hj=>h4 j hj,fun q hq=>h5 q (List.mem_of_mem_drop (List.mem_of_mem_take hq))⟩
 ·refine ⟨rfl,rfl,q3,row,q4,by omega, ?_⟩
  ·rw [Yb,Ya,q6,List.drop_take,List.drop_drop,List.take_take,hpl]
   rw [show o+8*k*3=o+24*k by omega,show min (8*3) (l.length*3 - 8*k*3)=min 8 (l.length - 8*k)*3 by omega]
 ·rw [hpl,List.length_take,List.length_drop,h2]
 ·have hi:i < 8:=by have:=(List.getElem?_eq_some_iff.1 q1).1;rw [List.length_take] at this;omega
  rw [List.getElem?_take_of_lt hi,List.getElem?_drop] at q1
  unfold bZ at q2
  rw [List.getElem?_take_of_lt hi,List.getElem?_drop] at q2
  exact h3 _ q e q1 q2
end Am
end Go.Proofs.YtbnkdnlfdofepaaGreat
