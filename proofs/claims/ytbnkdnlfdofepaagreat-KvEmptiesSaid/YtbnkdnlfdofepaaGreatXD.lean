/- Package block: put, Fits. Package block: Build. Package block: the reader: take, number, entry, entries. Package block: entries, read, All. The functions that the laws of a layer reach, in one table. -/
import Derived.Test.YtbnkdnlfdofepaaGreatXC
import Derived.Test.YtbnkdnlfdofepaaGreatXB
import Derived.KernelRfl
set_option linter.unusedVariables false
set_option linter.unusedSimpArgs false
namespace Go.Proofs.YtbnkdnlfdofepaaGreat
namespace Am
open Go.RowKit
set_option maxRecDepth 100000
def jY:BF:=⟨46,[0,1,2,5,6,7,30],(.seq (.reg [.mk none (.slot 3) (.eff (.box (sL 2))),mvS 4 (.mv (.const .ae))]) (.seq (.reg [ceS 8 1,mvE 9 (.aG 0 (sL 3)),ldE 10 9,clE 11 187 [eV 8,eV 10],csE 5 11]) (.seq (.reg [ceS 12 0,ceS 13 5,mvE 14 (.conv .u8 (eV 13)),mvE 15 (.aG 0 (sL 3)),ldE 16 15,lnE 17 16,ceS 18 5,mvE 19 (.bin .sub .no (eV 17) (eV 18)),mvE 20 (.conv .u8 (eV 19)),efE 21 (.aF 1 2 [(.int .u8 0)] [(0,1,(eV 14)),(1,1,(eV 20))]),efE 22 (.append 1 1 (eV 12) (eV 21)),csE 0 22]) (.seq (.reg [ceS 23 0,mvE 24 (.aG 0 (sL 3)),ldE 25 24,ceS 26 5,mvE 27 (.sl 1 (eV 25) (some (eV 26)) none none),efE 28 (.append 1 1 (eV 23) (eV 27)),csE 0 28]) (.seq (.seq (.reg [mvE 29 (.aG 2 (sL 3)),mvS 6 (.ld1 (eV 29))]) (.cond (sL 6) (.seq (.reg [ceS 31 0,efE 32 (.aF 1 1 [(.int .u8 0)] [(0,1,(.const (.int .u8 0)))]),efE 33 (.append 1 1 (eV 31) (eV 32)),csE 4 33]) .ret) .skip)) (.seq (.iC [(ceS 34 0,[]),(mvE 37 (.aG 1 (sL 3)),[]),(ldE 38 37,[]),(lnE 39 38,[]),(mvE 40 (.conv .u64 (eV 39)),[]),(efE 35 (.aF 1 1 [(.int .u8 0)] [(0,1,(.const (.int .u8 1)))]),[0,1,2,3,4]),(efE 36 (.append 1 1 (eV 34) (eV 35)),[1,2,3,4]),(clE 41 66 [eV 36,eV 40,(.const (.int .i64 2))],[]),(csE 0 41,[])]) (.seq (.reg [ceS 42 0,mvE 43 (.aG 1 (sL 3)),ldE 44 43,efE 45 (.append 1 1 (eV 42) (eV 44)),csE 4 45]) .ret))))))),[.slot (sL 4)]⟩
def jb:BF:=⟨52,[0,2,3,4,5,6,7,8,9,50],(.seq (.reg [mvS 1 (.mv (.const (.bool false)))]) (.seq (.seq (.reg [mvS 5 (.mv (sL 0)),mvS 6 (.ah (sL 5)),mvS 7 (.mv (.const (.int .i64 0)))]) (.block 0 (.loop (.seq (.reg [mvS 8 (.bin .lss .no (sL 7) (sL 6))]) (.seq (.cond (sL 8) .skip (.exit 0)) (.seq (.block 1 (.seq (.reg [ceS 10 7,mvE 11 (.aP 3 (sL 5) (sL 7)),mvE 12 (.ldn 3 (eV 11)), .mk none (.slot 3) (.eff (.alloc [.ae, .ae,(.bool false)])),csE 2 10, .mk none .none (.eff (.store 3 (sL 3) (eV 12)))]) (.seq (.reg [mvE 13 (.aG 2 (sL 3)),ldE 14 13,mvE 15 (.jd (eV 14)),ceE 16 15, .mk (some ((eV 16),true)) (.env 17) (.mov (.aG 1 (sL 3))), .mk (some ((eV 16),true)) (.env 18) (.mov (.ld1 (eV 17))), .mk (some ((eV 16),true)) (.env 19) (.mov (.ah (eV 18))), .mk (some ((eV 16),true)) (.env 20) (.mov (.bin .gtr .no (eV 19) (.const (.int .i64 4095)))),mvE 21 (.pick (eV 16) (eV 20) (.const (.bool false))),csE 4 21]) (.seq (.iC [(mvE 22 (.aG 0 (sL 3)),[]),(ldE 23 22,[]),(lnE 24 23,[]),(mvE 25 (.bin .lss .no (eV 24) (.const (.int .i64 1))),[]),(ceE 26 25,[]),(.mk (some ((eV 26),false)) (.env 27) (.mov (.aG 0 (sL 3))),[]),(.mk (some ((eV 26),false)) (.env 28) (.mov (.ld1 (eV 27))),[]),(.mk (some ((eV 26),false)) (.env 29) (.mov (.ah (eV 28))),[]),(.mk (some ((eV 26),false)) (.env 30) (.mov (.bin .gtr .no (eV 29) (.const (.int .i64 255)))),[]),(mvE 31 (.pick (eV 26) (.const (.bool true)) (eV 30)),[]),(ceE 32 31,[]),(.mk (some ((eV 32),false)) (.env 33) (.mov (.mv (sL 4))),[]),(mvE 34 (.pick (eV 32) (.const (.bool true)) (eV 33)),[]),(ceE 35 34,[]),(.mk (some ((eV 35),false)) (.env 36) (.mov (.mv (sL 2))),[]),(.mk (some ((eV 35),false)) (.env 37) (.mov (.bin .gtr .no (eV 36) (.const (.int .i64 0)))),[]),(.mk (some ((eV 35),false)) (.env 38) (.mov (.mv (eV 37))),[]),(.mk (some ((eV 38),true)) (.env 39) (.mov (.mv (sL 0))),[]),(.mk (some ((eV 38),true)) (.env 40) (.mov (.mv (sL 2))),[]),(.mk (some ((eV 38),true)) (.env 41) (.mov (.bin .sub .no (eV 40) (.const (.int .i64 1)))),[]),(.mk (some ((eV 38),true)) (.env 42) (.mov (.aP 3 (eV 39) (eV 41))),[]),(.mk (some ((eV 38),true)) (.env 43) (.mov (.aG 0 (eV 42))),[]),(.mk (some ((eV 38),true)) (.env 44) (.mov (.ld1 (eV 43))),[]),(.mk (some ((eV 38),true)) (.env 45) (.mov (.aG 0 (sL 3))),[]),(.mk (some ((eV 38),true)) (.env 46) (.mov (.ld1 (eV 45))),[]),(.mk (some ((eV 38),true)) (.env 47) (.call 147 [eV 44,eV 46]),[]),(.mk (some ((eV 38),true)) (.env 48) (.mov (.jd (eV 47))),[]),(.mk (some ((eV 35),false)) (.env 49) (.mov (.pick (eV 38) (eV 48) (.const (.bool false)))),[]),(mvS 9 (.pick (eV 35) (.const (.bool true)) (eV 49)),[])]) (.cond (sL 9) (.seq (.reg [mvS 1 (.mv (.const (.bool false)))]) .ret) .skip))))) (.reg [mvE 51 (.bin .add .no (sL 7) (.const (.int .i64 1))),csE 7 51]))))))) (.seq (.reg [mvS 1 (.mv (.const (.bool true)))]) .ret))),[.slot (sL 1)]⟩
structure KbT (E:Nat->Option (Ent MD)):Prop extends KgT E where
 shared:E 187=some (.bc eP)
 aa8:E 66=some (.bc fA)
 ab7:E 178=some (.bc jY)
 fits:E 159=some (.bc jb)
theorem JI {X:Type} {e:En} {t:List AV} {h:Hp X} {x:Od} {k:IntKind} {z:Int} {a:Nat} (hx:x.ev e t= .int k z) (hz:z=(a:Int)):(Mv.conv .u8 x).ev e t h=some (ub (UInt8.ofNat a)):=by
 subst hz
 exact lD hx
section
variable {E:Nat->Option (Ent MD)}
set_option maxHeartbeats 8000000 in
theorem WO (hE:∀f e,E f=some e->e.plain) (T:KbT E) {h:Hp MD} {bv lv:AV} {pre last:List UInt8} {q:T3} {e:EM} {M:Nat} (ob:OS h 1 bv pre.length (pre.map ub)) (hl:RS h 1 lv last.length (last.map ub)) (hv:eH h q e) (hn:vX e) (hM:∀k,blk bv k->M<=k) (hM2:∀k,blk lv k\/blk q.1 k\/blk q.2.1 k->k < M) (hMn:M<=h.n)
  (hp:pre.length<=1099511627776) (hk:e.key.length<=255) (hvl:e.val.length<=4095) (hla:last.length<=1099511627776):
  WF (lim E) 178 [bv,lv, .agg (f3 q)] h fun r h'=>OS h' 1 r (pre++kP last e).length ((pre++kP last e).map ub)/\Keep (blk bv) h h'/\∀k,blk r k->blk bv k\/h.n<=k:=by
 obtain ⟨kv,vv,gb⟩:=q
 have hgb:=hv.gone
 have hkv:=hv.key
 have hvv:=hv.val
 simp only at hgb hkv hvv hM2
 subst hgb
 refine aC hE T.ab7 rfl ?_
 simp only [jY,mvE,mvS,clE,efE,ceS,ceE,csE,faE,nlE,ldE,lnE,exE,eV,sL,kI,List.map,getS]
 have hmx:(maxLen:Nat)=9223372036854775807:=rfl
 have hall:allOne [kv,vv, .bool e.gone]=true:=aX hkv.one.2 hvv.one.2 rfl
 have b1:Bx (h.push (.rw [kv,vv, .bool e.gone])) h.n _:=aH
 have k1:Keep NoB h (h.push (.rw [kv,vv, .bool e.gone])):=Keep.push _ _ _
 have hl1:=hl.up k1
 have aa9:=hkv.up k1
 have bvl:=ob.lt
 have hsh:=EO last e.key
 repeat first|refine ZA ?_|refine BV (au b1 rfl rfl) ?_|refine BW (iD rfl hall) ?_|refine BP ?_|refine BQ ?_
 refine ag rfl ((Ot hE T.shared hl1 aa9 hla).mono fun r h1 ⟨e1,e2⟩=> ?_)
 subst e2
 subst e1
 generalize hsn:shF last e.key=n at*
 have k2:Keep NoB (h.push (.rw [kv,vv, .bool e.gone])) ((h.push (.rw [kv,vv, .bool e.gone])).push (.rw ([UInt8.ofNat n,UInt8.ofNat (e.key.length - n)].map ub))):=Keep.push _ _ _
 have hsub:((e.key.length:Int) - n)=((e.key.length - n:Nat):Int):=by omega
 repeat first|refine ZA ?_|refine BV (au b1 rfl rfl) ?_|refine BV (aa9.ah (by rfl)) ?_|refine BV (lD rfl) ?_|refine BV (JI rfl hsub) ?_|refine BW (uH (a:=ub (UInt8.ofNat n)) (b:=ub (UInt8.ofNat (e.key.length - n))) rfl rfl ⟨rfl,rfl⟩ ⟨rfl,rfl⟩) ?_|refine BP ?_|refine BQ ?_
 refine aJ (h':=(h.push (.rw [kv,vv, .bool e.gone])).push (.rw ([UInt8.ofNat n,UInt8.ofNat (e.key.length - n)].map ub))) rfl ?_
 have K2:=k1.and k2
 refine aA rfl rfl (ob.up K2) Nat.zero_lt_one (bH (n:=2) (z:=1) (l:=[UInt8.ofNat n,UInt8.ofNat (e.key.length - n)].map ub) rfl) (by omega) (by omega) fun c3 h3 a1 a2 a3=> ?_
 have n3:=a2.n
 simp only [bJ] at n3 a3
 have b3:=(b1.up k2).keep a2 (fun q=>by have:=bvl _ q;omega)
 have ab8:=(hkv.up K2).keep a2 (fun k q1 q2=>by have:=hM2 k (.inr (.inl q1));have:=hM k q2;omega)
 have Zx:=(hvv.up K2).keep a2 (fun k q1 q2=>by have:=hM2 k (.inr (.inr q1));have:=hM k q2;omega)
 have K3:Keep (blk bv) h h3:=K2.any.trans a2 (fun _ _ q=>q)
 have lo3:∀k,blk c3 k->blk bv k\/h.n+2<=k:=fun k q=>by rcases a3 k q with q|q;exact .inl q;exact .inr (by omega)
 obtain ⟨kd,r1,r2,_,r4⟩:=ab8.bytes (lo:=n) (hi:=e.key.length) (by omega) (Nat.le_refl _)
 have etk:(e.key.drop n).take (e.key.length - n)=e.key.drop n:=List.take_of_length_le (by simp)
 rw [etk] at r1
 repeat first|refine ZA ?_|refine BV (au b3 rfl rfl) ?_|refine BV (r4 (by rfl) (.inr ⟨_,_,rfl,rfl⟩) (.inl ⟨rfl,rfl⟩)) ?_|refine BP ?_|refine BQ ?_
 rw [<-List.map_append] at a1
 refine aA rfl rfl a1 Nat.zero_lt_one r1 (by simp;omega) (by simp;omega) fun c4 h4 d1 d2 d3=> ?_
 have n4:=d2.n
 rw [<-List.map_append] at d1
 have c3l:=a1.lt
 have b4:=b3.keep d2 (fun q=>by
  rcases lo3 _ q with q|q
  ·have:=bvl _ q;omega
  ·omega)
 have Zz:=Zx.keep d2 (fun k q1 q2=>by
  have:=hM2 k (.inr (.inr q1))
  rcases lo3 k q2 with q2|q2
  ·have:=hM k q2;omega
  ·omega)
 have K4:Keep (blk bv) h h4:=K3.on d2 (fun k q=>by rcases lo3 k q with q|q;exact .inr q;exact .inl (by omega))
 have lo4:∀k,blk c4 k->blk bv k\/h.n+2<=k:=fun k q=>by rcases d3 k q with q|q;exact lo3 k q;exact .inr (by omega)
 have pe:pre.length+2+(e.key.drop n).length=(pre++[UInt8.ofNat n,UInt8.ofNat (e.key.length - n)]++e.key.drop n).length:=by simp;omega
 rw [pe] at d1
 generalize hpq:pre++[UInt8.ofNat n,UInt8.ofNat (e.key.length - n)]++e.key.drop n=p4 at*
 have hp4:p4.length<=pre.length+300:=by rw [<-hpq];simp;omega
 have ent:∀s:List UInt8,pre++(UInt8.ofNat n::UInt8.ofNat (e.key.length - n)::(e.key.drop n++s))=p4++s:=fun s=>by rw [<-hpq];simp
 cases hg:e.gone with
 |true=>
  rw [hg] at b4
  have kp:Keep NoB h4 (h4.push (.rw ([(0:UInt8)].map ub))):=Keep.push _ _ _
  have ee:pre++kP last e=p4++[0]:=by unfold kP;rw [hsn,hg,if_pos rfl,ent]
  repeat first|refine ZA ?_|refine BV (au b4 rfl rfl) ?_|refine BW (kX (b:=0) rfl) ?_|refine BP ?_|refine BQ ?_
  refine aA rfl rfl (d1.up kp) Nat.zero_lt_one (bH (n:=1) (z:=1) (l:=[(0:UInt8)].map ub) rfl) (by omega) (by omega) fun c5 h5 e1 e2 e3=> ?_
  simp only [bJ] at e3
  rw [<-List.map_append,<-ee] at e1
  have ln:(pre++kP last e).length=p4.length+1:=by rw [ee];simp
  repeat first|refine ZA ?_|refine BP ?_|refine BQ ?_
  rw [ln]
  refine ⟨e1,(K4.and kp).on e2 (fun k q=>by rcases lo4 k q with q|q;exact .inr q;exact .inl (by omega)),fun k q=> ?_⟩
  rcases e3 k q with q|q
  ·rcases lo4 k q with q|q;exact .inl q;exact .inr (by omega)
  ·exact .inr (by omega)
 |false=>
  rw [hg] at b4
  have kp:Keep NoB h4 (h4.push (.rw ([(1:UInt8)].map ub))):=Keep.push _ _ _
  have ee:pre++kP last e=p4++[1]++encB e.val.length 2++e.val:=by unfold kP;rw [hsn,hg,if_neg (by simp),ent];simp
  repeat first|refine ZA ?_|refine BV (au b4 rfl rfl) ?_|refine BP ?_|refine BQ ?_
  repeat first|refine ZI ?_|refine CB (au b4 rfl rfl) ?_|refine CB (Zz.ah (by rfl)) ?_|refine CB (cO rfl (by omega)) ?_|refine BV (au b4 rfl rfl) ?_|refine BV (Zz.ah (by rfl)) ?_|refine BV (cO rfl (by omega)) ?_|refine BP ?_|refine BQ ?_|refine CC ?_
  have b5:=b4.up kp
  have xZ:=Zz.up kp
  refine EE (cs:=[(1:UInt8)].map ub) (kX (b:=1) rfl) (by (try simp only [List.nil_append,List.cons_append]);repeat first|exact aW|(apply iR;(focus exact rfl);first|exact jq|(refine iT ?_;first|exact (au b5 rfl rfl)|exact (xZ.ah (by rfl))|exact (cO rfl (by omega))|exact rfl))) ?_
  refine Ro rfl rfl (d1.up kp) Nat.zero_lt_one (bH (n:=1) (z:=1) (l:=[(1:UInt8)].map ub) rfl) (by omega) (by omega) fun c6 h6 e1 e2 e3=> ?_
  have n6:=e2.n
  simp only [bJ] at e3 n6
  have lo6:∀k,blk c6 k->blk bv k\/h.n+2<=k:=fun k q=>by
   rcases e3 k q with q|q
   ·exact lo4 k q
   ·exact .inr (by omega)
  have b6:=b5.keep e2 (fun q=>by
   rcases lo4 _ q with q|q
   ·have:=bvl _ q;omega
   ·omega)
  have aba:=xZ.keep e2 (fun k q1 q2=>by
   have:=hM2 k (.inr (.inr q1))
   rcases lo4 k q2 with q2|q2
   ·have:=hM k q2;omega
   ·omega)
  have K6:Keep (blk bv) h h6:=(K4.and kp).on e2 (fun k q=>by rcases lo4 k q with q|q;exact .inr q;exact .inl (by omega))
  refine ⟨(by (try simp only [List.nil_append,List.cons_append]);repeat first|exact aW|(apply iR;(focus exact rfl);first|exact jq|(refine iT ?_;first|exact (au b6 rfl rfl)|exact (aba.ah (by rfl))|exact (cO rfl (by omega))|exact rfl))), ?_⟩
  repeat first|refine ZI ?_|refine BP ?_|refine BQ ?_|refine CC ?_
  refine bF rfl ((qh hE T.aa8 T.clone e1.rs e1.vP (by omega) (m:=e.val.length) (size:=2) (k:=2) (by decide)).mono fun r h7 ⟨⟨k7,l7⟩,o7⟩=> ?_)
  rw [jU,<-List.map_append,<-List.map_append] at o7
  refine ⟨aW, ?_⟩
  have b7:=b6.up k7
  have ab9:=aba.up k7
  have n7:=k7.n
  repeat first|refine ZI ?_|refine CB (au b7 rfl rfl) ?_|refine BV (au b7 rfl rfl) ?_|refine BP ?_|refine BQ ?_|refine CC ?_
  have ol:p4.length+1+2=(p4++[1]++encB e.val.length 2).length:=by simp [aB]
  rw [ol] at o7
  refine aA rfl rfl o7 Nat.zero_lt_one ab9 (by simp [aB];omega) (by simp [aB];omega) fun c8 h8 f1 f2 f3=> ?_
  rw [<-List.map_append,<-ee] at f1
  have ln:(pre++kP last e).length=(p4++[1]++encB e.val.length 2).length+e.val.length:=by rw [ee,List.length_append]
  repeat first|refine ZA ?_|refine BP ?_|refine BQ ?_
  rw [ln]
  refine ⟨f1,(K6.and k7).on f2 (fun k q=> .inl (by have:=l7 k q;omega)),fun k q=> ?_⟩
  rcases f3 k q with q|q
  ·exact .inr (by have:=l7 k q;omega)
  ·exact .inr (by omega)
structure SG (l:List EM):Prop where
 ris:dI l
 ok:∀e∈l,okE e=true
theorem kQ {e:EM} (h:okE e=true):1<=e.key.length/\e.key.length<=255/\e.v.length<=4095:=by
 unfold okE at h
 simp only [Bool.and_eq_true,decide_eq_true_eq] at h
 exact ⟨h.1.1,h.1.2,h.2⟩
set_option maxHeartbeats 4000000 in
theorem MC (hE:∀f e,E f=some e->e.plain) (T:KbT E) {h:Hp MD} {v:AV} {l:List EM} {F:Nat->Prop} (en:aN h v l F) (hl:l.length<=1000000) (P:SG l):
  WF (lim E) 159 [v] h fun r h'=>Keep NoB h h'/\r= .bool true:=by
 obtain ⟨tri,hr,htl,hq,_⟩:=en.out
 refine aC hE T.fits rfl ?_
 simp only [jb,mvE,mvS,clE,efE,ceS,ceE,csE,faE,nlE,ldE,lnE,exE,eV,sL,kI,List.map,getS]
 repeat first|refine ZA ?_|refine BV (hr.ah (by rfl)) ?_|refine BP ?_|refine BQ ?_
 refine aQ (fun n t g=>∃(i:Nat) (s2 s3 s4 s8 s9:AV),i<=l.length/\n=l.length - i/\Keep NoB h g/\t=[v, .bool false,s2,s3,s4,v, .int .i64 l.length, .int .i64 i,s8,s9]) ?_ l.length _ _ ⟨0,_,_,_,_,_,by omega,by omega,Keep.refl _ _,rfl⟩
 rintro n t g ⟨i,s2,s3,s4,s8,s9,hi,hn,K,rfl⟩
 by_cases hlt:i < l.length
 ·obtain ⟨x,hx⟩:∃x,l[i]?=some x:=⟨_,List.getElem?_eq_getElem hlt⟩
  obtain ⟨q,hqi⟩:∃q,tri[i]?=some q:=⟨_,List.getElem?_eq_getElem (by omega)⟩
  have hv:=(hq _ q x hqi hx).up K
  obtain ⟨ga,oa,pa,_,na⟩:=hr.at3 hqi
  have na:∀{e:En} {t:List AV} {x:Od},x.ev e t= .ptr ga oa->(Mv.ldn 3 x).ev e t g=some (.agg (f3 q)):=fun {_ _ _} hx=>na K (fun _ _ q=>q) hx
  obtain ⟨z1,z2,z3⟩:=kQ (P.ok x (List.mem_of_getElem? hx))
  obtain ⟨qa,qb,qc⟩:=q
  have hgb:=hv.gone
  simp only at hgb
  subst hgb
  have hall:allOne (f3 (qa,qb,x.gone))=true:=aX hv.key.one.2 hv.val.one.2 rfl
  have b3:Bx (g.push (.rw [.ae, .ae, .bool false])) g.n _:=aH
  have k4:Keep NoB g (g.push (.rw [.ae, .ae, .bool false])):=Keep.push _ _ _
  have kq:Keep (az g.n) (g.push (.rw [.ae, .ae, .bool false])) ((g.push (.rw [.ae, .ae, .bool false])).put g.n (.rw [qa,qb, .bool x.gone])):=Keep.put _ _ _ rfl
  have k5:Keep NoB g ((g.push (.rw [.ae, .ae, .bool false])).put g.n (.rw [qa,qb, .bool x.gone])):=k4.own kq (fun k q=>by have q:k=g.n:=q;omega)
  have b5:Bx ((g.push (.rw [.ae, .ae, .bool false])).put g.n (.rw [qa,qb, .bool x.gone])) g.n [qa,qb, .bool x.gone]:=b3.put
  repeat first|refine ZA ?_|refine BV (pa rfl rfl) ?_|refine BV (na rfl) ?_|refine BW (aV b3 rfl rfl hall rfl (Nat.le_refl _)) ?_|refine BQ ?_
  obtain ⟨g5,hg5⟩:∃g5:Hp MD,g5=(g.push (.rw [.ae, .ae, .bool false])).put g.n (.rw [qa,qb, .bool x.gone]):=⟨_,rfl⟩
  refine aJ (h':=g5) (by rw [hg5];first|done|rfl) ?_
  rw [<-hg5] at k5 b5
  have hv5:=hv.up k5
  have hk5:=hv5.key
  have xZ:=hv5.val
  simp only at hk5 xZ
  have K5:=K.and k5
  have nl:¬((x.key.length:Int) < 1):=by omega
  have nl2:¬((255:Int) < x.key.length):=by omega
  have long:∀{s2 s3 s4 s8 s9:AV} {g6:Hp MD},Keep NoB h g6->xk (fun n t g=>∃(i:Nat) (s2 s3 s4 s8 s9:AV),i<=l.length/\n=l.length - i/\Keep NoB h g/\t=[v, .bool false,s2,s3,s4,v, .int .i64 l.length, .int .i64 i,s8,s9]) n (NS 0 (mV (lim E) (.seq (.reg [.mk none (.slot 1) (.mov (.mv (.const (.bool true))))]) .ret) (V3 [.slot (.slot 1)] fun r h'=>Keep NoB h h'/\r= .bool true))) (.norm [v, .bool false,s2,s3,s4,v, .int .i64 l.length, .int .i64 ((i:Int)+1),s8,s9] g6):=fun {s2 s3 s4 s8 s9 g6} kk=>by
   rw [show ((i:Int)+1)=((i+1:Nat):Int) by omega]
   exact aj (n - 1) (by omega) ⟨i+1,_,_,_,_,_,by omega,by omega,kk,rfl⟩
  by_cases hi0:i=0
  ·subst hi0
   cases hg:x.gone with
   |true=>
    rw [hg] at b5
    repeat first|refine ZI ?_|refine (CU rfl) ?_|refine CB (di rfl) ?_|refine CB (au b5 rfl rfl) ?_|refine CB (hk5.ah (by rfl)) ?_|refine CB (xZ.ah (by rfl)) ?_|refine BV (di rfl) ?_|refine BV (au b5 rfl rfl) ?_|refine BV (hk5.ah (by rfl)) ?_|refine BV (xZ.ah (by rfl)) ?_|refine BP ?_|refine BQ ?_|refine CC ?_
    exact long K5
   |false=>
    rw [hg] at b5
    have z3:x.val.length<=4095:=by unfold EM.v at z3;rw [hg] at z3;exact z3
    have nl3:¬((4095:Int) < x.val.length):=by omega
    repeat first|refine ZI ?_|refine (CU rfl) ?_|refine CB (di rfl) ?_|refine CB (au b5 rfl rfl) ?_|refine CB (hk5.ah (by rfl)) ?_|refine CB (xZ.ah (by rfl)) ?_|refine BV (di rfl) ?_|refine BV (au b5 rfl rfl) ?_|refine BV (hk5.ah (by rfl)) ?_|refine BV (xZ.ah (by rfl)) ?_|refine BP ?_|refine BQ ?_|refine CC ?_
    exact long K5
  ·obtain ⟨y,hy⟩:∃y,l[i - 1]?=some y:=⟨_,List.getElem?_eq_getElem (by omega)⟩
   obtain ⟨p,hpi⟩:∃p,tri[i - 1]?=some p:=⟨_,List.getElem?_eq_getElem (by omega)⟩
   have hw:=((hq _ p y hpi hy).up K5).key
   obtain ⟨gb,ob,pb,lb,_⟩:=hr.at3 hpi
   have lb:∀{e:En} {t:List AV} {x:Od},x.ev e t= .ptr gb ob->(Mv.ld1 x).ev e t g5=some p.1:=fun {_ _ _} hx=>lb K5 (fun _ _ q=>q) (j:=0) hx (by decide)
   have hi1:(0:Int) < i:=by omega
   have hsb:((i:Int) - 1)=((i - 1:Nat):Int):=by omega
   have pb':∀{hh:Hp MD} {e:En} {t:List AV} {x y:Od} {k:IntKind},x.ev e t=v->y.ev e t= .int k ((i:Int) - 1)->(Mv.aP 3 x y).ev e t hh=some (.ptr gb ob):=fun hx hy=>pb hx (by rw [hy,hsb])
   have hlt2:=EY P.ris hy hx (by omega)
   cases hg:x.gone with
   |true=>
    rw [hg] at b5
    repeat first|refine ZI ?_|refine CB (di rfl) ?_|refine CB (au b5 rfl rfl) ?_|refine CB (hk5.ah (by rfl)) ?_|refine CB (xZ.ah (by rfl)) ?_|refine CB (rf (op:= .sub) rfl rfl rfl (by omega)) ?_|refine CB (pb' rfl rfl) ?_|refine CB (lb rfl) ?_|refine BV (di rfl) ?_|refine BV (au b5 rfl rfl) ?_|refine BV (hk5.ah (by rfl)) ?_|refine BV (xZ.ah (by rfl)) ?_|refine BV (rf (op:= .sub) rfl rfl rfl (by omega)) ?_|refine BV (pb' rfl rfl) ?_|refine BV (lb rfl) ?_|refine BP ?_|refine BQ ?_|refine CC ?_
    refine bF rfl ((tJ hE T.less T.Ou hw hk5).mono fun r g6 ⟨e6,e7⟩=> ?_)
    subst e6 e7
    rw [hlt2]
    refine ⟨aW, ?_⟩
    repeat first|refine ZI ?_|refine CB (di rfl) ?_|refine BV (di rfl) ?_|refine BP ?_|refine BQ ?_|refine CC ?_
    exact long K5
   |false=>
    rw [hg] at b5
    have z3:x.val.length<=4095:=by unfold EM.v at z3;rw [hg] at z3;exact z3
    have nl3:¬((4095:Int) < x.val.length):=by omega
    repeat first|refine ZI ?_|refine CB (di rfl) ?_|refine CB (au b5 rfl rfl) ?_|refine CB (hk5.ah (by rfl)) ?_|refine CB (xZ.ah (by rfl)) ?_|refine CB (rf (op:= .sub) rfl rfl rfl (by omega)) ?_|refine CB (pb' rfl rfl) ?_|refine CB (lb rfl) ?_|refine BV (di rfl) ?_|refine BV (au b5 rfl rfl) ?_|refine BV (hk5.ah (by rfl)) ?_|refine BV (xZ.ah (by rfl)) ?_|refine BV (rf (op:= .sub) rfl rfl rfl (by omega)) ?_|refine BV (pb' rfl rfl) ?_|refine BV (lb rfl) ?_|refine BP ?_|refine BQ ?_|refine CC ?_
    refine bF rfl ((tJ hE T.less T.Ou hw hk5).mono fun r g6 ⟨e6,e7⟩=> ?_)
    subst e6 e7
    rw [hlt2]
    refine ⟨aW, ?_⟩
    repeat first|refine ZI ?_|refine CB (di rfl) ?_|refine BV (di rfl) ?_|refine BP ?_|refine BQ ?_|refine CC ?_
    exact long K5
 ·repeat first|refine ZA ?_|refine BP ?_|refine BQ ?_
  exact ⟨K,rfl⟩
end
def gX:BF:=⟨65,[0,2,3,4,5,6,7,8,10,23,24,25,26,27,33,46,47,48,49,53],(.seq (.reg [mvS 1 (.mv (.const .ae)),mvS 2 (.mv (.const (.int .i64 0)))]) (.seq (.seq (.reg [ceS 11 0,lnE 12 11,mvE 13 (.bin .lss .no (eV 12) (.const (.int .i64 1))),ceE 14 13, .mk (some ((eV 14),false)) (.env 15) (.mov (.mv (sL 0))), .mk (some ((eV 14),false)) (.env 16) (.mov (.ah (eV 15))), .mk (some ((eV 14),false)) (.env 17) (.mov (.bin .gtr .no (eV 16) (.const (.int .i64 255)))),mvE 18 (.pick (eV 14) (.const (.bool true)) (eV 17)),ceE 19 18, .mk (some ((eV 19),false)) (.env 20) (.mov (.mv (sL 0))), .mk (some ((eV 19),false)) (.env 21) (.call 159 [eV 20]), .mk (some ((eV 19),false)) (.env 22) (.mov (.jd (eV 21))),mvS 9 (.pick (eV 19) (.const (.bool true)) (eV 22))]) (.cond (sL 9) (.seq (.reg [mvS 1 (.mv (.const .ae)),mvS 2 (.mv (.const (.int .i64 1)))]) .ret) .skip)) (.seq (.reg [mvS 3 (.mv (.const .ae)),mvS 4 (.mv (.const .ae))]) (.seq (.reg [mvS 5 (.mv (.const .ae))]) (.seq (.seq (.reg [mvS 10 (.mv (sL 0)),mvS 11 (.ah (sL 10)),mvS 12 (.mv (.const (.int .i64 0)))]) (.block 0 (.loop (.seq (.reg [mvS 13 (.bin .lss .no (sL 12) (sL 11))]) (.seq (.cond (sL 13) .skip (.exit 0)) (.seq (.block 1 (.seq (.reg [ceS 28 12,mvE 29 (.aP 3 (sL 10) (sL 12)),mvE 30 (.ldn 3 (eV 29)), .mk none (.slot 7) (.eff (.alloc [.ae, .ae,(.bool false)])),csE 6 28, .mk none .none (.eff (.store 3 (sL 7) (eV 30)))]) (.seq (.seq (.reg [ceS 31 6,mvE 32 (.bin .rem .no (eV 31) (.const (.int .i64 4))),mvS 14 (.bin .eql .no (eV 32) (.const (.int .i64 0)))]) (.cond (sL 14) (.reg [ceS 34 5,ceS 35 3,lnE 36 35,efE 37 (.aF 1 1 [(.int .i64 0)] [(0,1,(eV 36))]),efE 38 (.append 1 8 (eV 34) (eV 37)),csE 5 38,mvS 4 (.mv (.const .ae))]) .skip)) (.seq (.reg [ceS 39 3,ceS 40 4,mvE 41 (.ldn 3 (sL 7)),clE 42 178 [eV 39,eV 40,eV 41],csE 3 42]) (.reg [mvE 43 (.aG 0 (sL 7)),ldE 44 43,csE 4 44]))))) (.reg [mvE 45 (.bin .add .no (sL 12) (.const (.int .i64 1))),csE 12 45]))))))) (.seq (.seq (.reg [mvS 15 (.mv (sL 5)),mvS 16 (.ah (sL 15)),mvS 17 (.mv (.const (.int .i64 0)))]) (.block 2 (.loop (.seq (.reg [mvS 18 (.bin .lss .no (sL 17) (sL 16))]) (.seq (.cond (sL 18) .skip (.exit 2)) (.seq (.block 3 (.seq (.reg [mvE 50 (.aP 1 (sL 15) (sL 17)),ldE 51 50,csE 8 51]) (.seq (.seq (.reg [ceS 52 8,mvS 19 (.bin .gtr .no (eV 52) (.const (.int .i64 65535)))]) (.cond (sL 19) (.seq (.reg [mvS 1 (.mv (.const .ae)),mvS 2 (.mv (.const (.int .i64 3)))]) .ret) .skip)) (.reg [ceS 54 3,ceS 55 8,mvE 56 (.conv .u64 (eV 55)),clE 57 66 [eV 54,eV 56,(.const (.int .i64 2))],csE 3 57])))) (.reg [mvE 58 (.bin .add .no (sL 17) (.const (.int .i64 1))),csE 17 58]))))))) (.seq (.reg [ceS 59 3,ceS 60 5,lnE 61 60,mvE 62 (.conv .u8 (eV 61)),efE 63 (.aF 1 1 [(.int .u8 0)] [(0,1,(eV 62))]),efE 64 (.append 1 1 (eV 59) (eV 63)),csE 1 64,mvS 2 (.mv (.const (.int .i64 0)))]) .ret))))))),[.slot (sL 1), .slot (sL 2)]⟩
def nv (n:Nat):AV:= .int .i64 n
theorem SH {X:Type} {e:En} {t:List AV} {h:Hp X} {q:Eq} {x y:Od} {k:IntKind} {r:Nat} (hx:x.ev e t= .int k (r:Int)) (hy:y.ev e t= .int k 4):(Mv.bin .rem q x y).ev e t h=some (.int k ((r % 4:Nat):Int)):=
 (XZ hx hy (by decide)).trans rfl
structure KdT (E:Nat->Option (Ent MD)):Prop extends KbT E where
 build:E 161=some (.bc gX)
theorem MG {l:List Nat} {j a:Nat} (h:l[j]?=some a):(l.take (j+1)).flatMap (fun a=>encB a 2)=(l.take j).flatMap (fun a=>encB a 2)++encB a 2:=by
 rw [take_snoc h,List.flatMap_append]
 simp
theorem Ov (l:List Nat):(l.flatMap fun a=>encB a 2).length=2*l.length:=by
 induction l with
 |nil=>rfl
 |cons a m ih=>rw [List.flatMap_cons,List.length_append,ih,aB,List.length_cons];omega
section
variable {E:Nat->Option (Ent MD)}
set_option maxHeartbeats 8000000 in
theorem Df (hE:∀f e,E f=some e->e.plain) (T:KdT E) {h:Hp MD} {v:AV} {l:List EM} {F:Nat->Prop} (en:aN h v l F) (h1:1<=l.length) (h8:l.length<=8) (P:SG l) (N:∀e∈l,vX e):
  WF (lim E) 161 [v] h fun r h'=>Keep NoB h h'/\∃o,r= .tup [o, .int .i64 0]/\OS h' 1 o (dV l).length ((dV l).map ub)/\∀k,blk o k->h.n<=k:=by
 obtain ⟨tri,hr,htl,hq,_⟩:=en.out
 have hr0:=hr
 refine aC hE T.build rfl ?_
 simp only [gX,mvE,mvS,clE,efE,ceS,ceE,csE,faE,nlE,ldE,lnE,exE,eV,sL,kI,List.map,getS]
 have hmx:(maxLen:Nat)=9223372036854775807:=rfl
 have n1:¬((l.length:Int) < 1):=by omega
 have n2:¬((255:Int) < l.length):=by omega
 have hK:∀e∈l,e.key.length+e.v.length<=4350:=fun e he=>by have:=kQ (P.ok e he);omega
 repeat first|refine ZA ?_|refine BV (hr.ah (by rfl)) ?_|refine BP ?_|refine BQ ?_
 refine ag rfl ((MC hE T.toKbT en (by omega) P).mono fun r g0 ⟨k0,e0⟩=> ?_)
 subst e0
 have n0:=k0.n
 have hr:=hr.up k0
 repeat first|refine ZA ?_|refine BV (di rfl) ?_|refine BV (hr.ah (by rfl)) ?_|refine BP ?_|refine BQ ?_
 refine aQ (fun n t g=>∃(i:Nat) (bv lv gv s6 s7 s13 s14:AV),i<=l.length/\n=l.length - i/\Keep NoB h g/\OS g 1 bv (dQ (l.take i)).length ((dQ (l.take i)).map ub)/\OS g 1 gv (dX (l.take i)).length ((dX (l.take i)).map nv)/\RS g 1 lv (lastK [] (l.take i)).length ((lastK [] (l.take i)).map ub)/\
  (∀k,blk bv k->h.n<=k/\¬blk gv k)/\(∀k,blk gv k->h.n<=k)/\(∀k,blk lv k->k < h.n)/\
  t=[v, .ae, .int .i64 0,bv,lv,gv,s6,s7, .bot, .bool false,v, .int .i64 l.length, .int .i64 i,s13,s14, .bot, .bot, .bot, .bot, .bot]) ?_ l.length _ _ ⟨0, .ae, .ae, .ae,_,_,_,_,by omega,by omega,k0,⟨rfl,rfl⟩,⟨rfl,rfl⟩,⟨rfl,rfl⟩,fun k q=>q.elim,fun k q=>q.elim,fun k q=>q.elim,rfl⟩
 rintro n t g ⟨i,bv,lv,gv,s6,s7,s13,s14,hi,hn,K,ob,og,hl,bvb,gvb,lvb,rfl⟩
 have nK:=K.n
 have hbl:=EP hK i hi
 have hgl:=vZ (l:=l) i hi
 by_cases hlt:i < l.length
 ·obtain ⟨x,hx⟩:∃x,l[i]?=some x:=⟨_,List.getElem?_eq_getElem hlt⟩
  obtain ⟨q,hqi⟩:∃q,tri[i]?=some q:=⟨_,List.getElem?_eq_getElem (by omega)⟩
  have hv0:=hq _ q x hqi hx
  have hv:=hv0.up K
  obtain ⟨ga,oa,pa,_,na⟩:=hr0.at3 hqi
  have na:∀{e:En} {t:List AV} {x:Od},x.ev e t= .ptr ga oa->(Mv.ldn 3 x).ev e t g=some (.agg (f3 q)):=fun {_ _ _} hx=>na K (fun _ _ q=>q) hx
  have hkl:=hv0.lt
  obtain ⟨z1,z2,z3⟩:=kQ (P.ok x (List.mem_of_getElem? hx))
  have hnx:=N x (List.mem_of_getElem? hx)
  have z4:x.val.length<=4095:=by
   unfold EM.v at z3
   cases hg:x.gone with
   |true=>rw [hnx hg];simp
   |false=>rw [hg] at z3;exact z3
  obtain ⟨qa,qb,qc⟩:=q
  have hall:allOne (f3 (qa,qb,qc))=true:=aX hv.key.one.2 hv.val.one.2 rfl
  have b3:Bx (g.push (.rw [.ae, .ae, .bool false])) g.n _:=aH
  have k4:Keep NoB g (g.push (.rw [.ae, .ae, .bool false])):=Keep.push _ _ _
  have kq:Keep (az g.n) (g.push (.rw [.ae, .ae, .bool false])) ((g.push (.rw [.ae, .ae, .bool false])).put g.n (.rw [qa,qb, .bool qc])):=Keep.put _ _ _ rfl
  have k5:Keep NoB g ((g.push (.rw [.ae, .ae, .bool false])).put g.n (.rw [qa,qb, .bool qc])):=k4.own kq (fun k q=>by have q:k=g.n:=q;omega)
  have b5:Bx ((g.push (.rw [.ae, .ae, .bool false])).put g.n (.rw [qa,qb, .bool qc])) g.n [qa,qb, .bool qc]:=b3.put
  repeat first|refine ZA ?_|refine BV (pa rfl rfl) ?_|refine BV (na rfl) ?_|refine BV (SH rfl rfl) ?_|refine BV (Ll rfl rfl rfl) ?_|refine BW (aV b3 rfl rfl hall rfl (Nat.le_refl _)) ?_|refine BP ?_|refine BQ ?_
  obtain ⟨g5,hg5⟩:∃g5:Hp MD,g5=(g.push (.rw [.ae, .ae, .bool false])).put g.n (.rw [qa,qb, .bool qc]):=⟨_,rfl⟩
  have n5:g5.n=g.n+1:=by rw [hg5];rfl
  refine aa0 (h':=g5) (by rw [hg5];first|done|rfl) ?_
  rw [<-hg5] at k5 b5
  clear kq k4 b3 hg5
  have bvl:=ob.lt
  have gvl:=og.lt
  have ob5:=ob.up k5
  have og5:=og.up k5
  have hl5:=hl.up k5
  have hv5:=hv.up k5
  have hbs:=JG hx
  have K5:=K.and k5
  refine uK (fun t' g6=>∃(lv' gv' c:AV),Keep NoB h g6/\OS g6 1 bv (dQ (l.take i)).length ((dQ (l.take i)).map ub)/\OS g6 1 gv' (dX (l.take (i+1))).length ((dX (l.take (i+1))).map nv)/\RS g6 1 lv' (gV l i).length ((gV l i).map ub)/\eH g6 (qa,qb,qc) x/\Bx g6 g.n [qa,qb, .bool qc]/\
   (∀k,blk bv k->h.n<=k/\¬blk gv' k)/\(∀k,blk gv' k->h.n<=k/\k≠g.n)/\(∀k,blk lv' k->k < h.n)/\g.n+1<=g6.n/\
   t'=[v, .ae, .int .i64 0,bv,lv',gv', .int .i64 i, .ptr g.n 0, .bot, .bool false,v, .int .i64 l.length, .int .i64 i, .bool true,c, .bot, .bot, .bot, .bot, .bot]) ?_ ?_
  ·by_cases hm:i % 4=0
   ·refine AF rfl (decide_eq_true (by omega)) ?_
    have hla:gV l i=[]:=by unfold gV;rw [if_pos hm]
    rw [if_pos hm] at hbs
    have kp:Keep NoB g5 (g5.push (.rw [nv (dQ (l.take i)).length])):=Keep.push _ _ _
    repeat first|refine ZA ?_|refine BV (ob5.rs.ah (by rfl)) ?_|refine BW (dO (c:=nv (dQ (l.take i)).length) rfl rfl rfl) ?_|refine BP ?_|refine BQ ?_
    refine aA rfl rfl (og5.up kp) Nat.zero_lt_one (bH (n:=1) (z:=1) rfl) (by omega) (by omega) fun gv' g6 a1 a2 a3=> ?_
    simp only [bJ] at a3
    have n6:=a2.n
    simp only [bJ] at n6
    repeat first|refine ZA ?_|refine BP ?_|refine BQ ?_
    refine bK ⟨.ae,gv',_,(K5.and kp).own a2 gvb,(ob5.up kp).keep a2 (fun k q1 q2=>(bvb k q1).2 q2), ?_,by rw [hla];exact ⟨rfl,rfl⟩,(hv5.up kp).keep a2 (fun k q1 q2=>by have:=hkl k q1;have:=gvb k q2;omega),(b5.up kp).keep a2 (fun q=>by have:=gvl _ q;omega),fun k q=>⟨(bvb k q).1,fun q2=> ?_⟩,fun k q=> ?_,fun k q=>q.elim,by omega,rfl⟩
    ·rw [hbs,List.length_append,List.map_append]
     exact a1
    ·rcases a3 k q2 with q3|q3
     ·exact (bvb k q).2 q3
     ·have:=bvl k q;omega
    ·rcases a3 k q with q3|q3
     ·have:=gvl k q3;exact ⟨gvb k q3,by omega⟩
     ·exact ⟨by omega,by omega⟩
   ·refine AG rfl (decide_eq_false (by omega)) ?_
    have hla:gV l i=lastK [] (l.take i):=by unfold gV;rw [if_neg hm]
    rw [if_neg hm,List.append_nil] at hbs
    repeat first|refine ZA ?_|refine BP ?_|refine BQ ?_
    exact bK ⟨lv,gv,_,K5,ob5,by rw [hbs];exact og5,by rw [hla];exact hl5,hv5,b5,bvb,fun k q=>⟨gvb k q,by have:=gvl k q;omega⟩,lvb,by omega,rfl⟩
  rintro t' g6 ⟨lv',gv',c,K6,ob6,og6,hl6,hv6,b6,Ox,aca,acb,hgn6,rfl⟩
  have n6:=K6.n
  have hk6:=hv6.key
  have bvl6:=ob6.lt
  simp only at hk6
  have lal:(gV l i).length<=1000000:=by
   unfold gV
   split
   ·simp
   ·cases i with
    |zero=>simp [lastK]
    |succ j=>
     rw [qm (List.getElem?_eq_getElem (show j < l.length by omega))]
     have:=kQ (P.ok l[j] (List.getElem_mem _));omega
  repeat first|refine ZA ?_|refine BV (dh b6 rfl (Nat.le_refl _)) ?_|refine BP ?_|refine BQ ?_
  refine ag rfl ((WO hE T.toKbT (M:=h.n) ob6 hl6 hv6 hnx (fun k q=>(Ox k q).1) (fun k q=>by
   rcases q with q|q|q
   ·exact acb k q
   ·exact hkl k (.inl q)
   ·exact hkl k (.inr q)) n6 (by omega) z2 z4 (by omega)).mono fun r g7 ⟨o7,k7,b7⟩=> ?_)
  have n7:=k7.n
  rw [<-zK hx] at o7
  have bx7:=b6.keep k7 (fun q=>by have:=(Ox _ q).1;have h2:=bvl;exact absurd (bvl _ q) (by omega))
  have og7:=og6.keep k7 (fun k q1 q2=>(Ox k q2).2 q1)
  have hk7:=hk6.keep k7 (fun k q1 q2=>by have:=hkl k (.inl q1);have:=(Ox k q2).1;omega)
  repeat first|refine ZA ?_|refine BV (au bx7 rfl rfl) ?_|refine BP ?_|refine BQ ?_
  rw [show ((i:Int)+1)=((i+1:Nat):Int) by omega]
  refine aj (n - 1) (by omega) ⟨i+1,r,qa,gv',_,_,_,_,by omega,by omega,K6.own k7 (fun k q=>(Ox k q).1),o7,og7,by rw [qm hx];exact hk7,fun k q=> ?_,fun k q=>(aca k q).1,fun k q=>hkl k (.inl q),rfl⟩
  rcases b7 k q with q2|q2
  ·exact Ox k q2
  ·exact ⟨by omega,fun q3=>by have:=og6.lt k q3;omega⟩
 have e:i=l.length:=by omega
 subst e
 rw [List.take_length] at ob og hbl hgl
 have gvl:=og.lt
 have og:=og.rs
 have hbm:∀a∈dX l,a<=(dQ l).length:=by
  have:=Md (l:=l) l.length (Nat.le_refl _)
  rwa [List.take_length] at this
 repeat first|refine ZA ?_|refine BV (og.ah (by rfl)) ?_|refine BP ?_|refine BQ ?_
 refine aQ (fun n t g2=>∃(j:Nat) (bv2 s8 s18 s19:AV),j<=(dX l).length/\n=(dX l).length - j/\Keep NoB h g2/\RS g2 1 gv (dX l).length ((dX l).map nv)/\OS g2 1 bv2 (dQ l++((dX l).take j).flatMap (fun a=>encB a 2)).length ((dQ l++((dX l).take j).flatMap (fun a=>encB a 2)).map ub)/\(∀k,blk bv2 k->h.n<=k/\¬blk gv k)/\
  t=[v, .ae, .int .i64 0,bv2,lv,gv,s6,s7,s8, .bool false,v, .int .i64 l.length, .int .i64 l.length, .bool false,s14,gv, .int .i64 (dX l).length, .int .i64 j,s18,s19]) ?_ (dX l).length _ _ ⟨0,bv,_,_,_,by omega,by omega,K,og,by simpa using ob,bvb,rfl⟩
 clear og ob K
 rintro n t g2 ⟨j,bv2,s8,s18,s19,hj,hn2,K,og,ob,abb,rfl⟩
 have hf:=Ov ((dX l).take j)
 rw [List.length_take] at hf
 have obl:(dQ l++((dX l).take j).flatMap (fun a=>encB a 2)).length<=100000:=by rw [List.length_append];omega
 have nK:=K.n
 by_cases hlt:j < (dX l).length
 ·obtain ⟨a,ha⟩:∃a,(dX l)[j]?=some a:=⟨_,List.getElem?_eq_getElem hlt⟩
  have hal:=hbm a (List.mem_of_getElem? ha)
  obtain ⟨ga,oa,pa,la⟩:=og.at2 hlt
  have la:∀{e:En} {t:List AV} {x:Od},x.ev e t= .ptr ga oa->(Mv.ld1 x).ev e t g2=some (.int .i64 (a:Int)):=fun {_ _ _} hx=>by rw [la (Keep.refl NoB _) (fun _ _ q=>q) hx,List.getElem?_map,ha];rfl
  have na:¬((65535:Int) < a):=by omega
  repeat first|refine ZA ?_|refine BV (pa rfl rfl) ?_|refine BV (la rfl) ?_|refine BV (cO rfl (by omega)) ?_|refine BP ?_|refine BQ ?_
  refine ag rfl ((qh hE T.aa8 T.clone ob.rs ob.vP (by omega) (m:=a) (size:=2) (k:=2) (by decide)).mono fun r g3 ⟨⟨k3,l3⟩,o3⟩=> ?_)
  rw [jU,<-List.map_append] at o3
  have ol:(dQ l++((dX l).take j).flatMap (fun a=>encB a 2)).length+2=(dQ l++((dX l).take (j+1)).flatMap (fun a=>encB a 2)).length:=by rw [MG ha];simp [aB];omega
  rw [ol,List.append_assoc,<-MG ha] at o3
  repeat first|refine ZA ?_|refine BP ?_|refine BQ ?_
  rw [show ((j:Int)+1)=((j+1:Nat):Int) by omega]
  exact aj (n - 1) (by omega) ⟨j+1,r,_,_,_,by omega,by omega,K.and k3,og.up k3,o3,fun k q=>⟨by have:=l3 k q;omega,fun q2=>by have:=l3 k q;have:=og.lt k q2;omega⟩,rfl⟩
 ·have e:j=(dX l).length:=by omega
  subst e
  rw [List.take_length] at ob obl
  have kp:Keep NoB g2 (g2.push (.rw ([UInt8.ofNat (dX l).length].map ub))):=Keep.push _ _ _
  repeat first|refine ZA ?_|refine BV (og.ah (by rfl)) ?_|refine BV (lD rfl) ?_|refine BW (kX (b:=UInt8.ofNat (dX l).length) rfl) ?_|refine BP ?_|refine BQ ?_
  refine aA rfl rfl (ob.up kp) Nat.zero_lt_one (bH (n:=1) (z:=1) (l:=[UInt8.ofNat (dX l).length].map ub) rfl) (by omega) (by omega) fun o g4 a1 a2 a3=> ?_
  simp only [bJ] at a3
  rw [<-List.map_append] at a1
  have e:dQ l++(dX l).flatMap (fun a=>encB a 2)++[UInt8.ofNat (dX l).length]=dV l:=rfl
  rw [e] at a1
  have e2:(dQ l++(dX l).flatMap (fun a=>encB a 2)).length+1=(dV l).length:=by unfold dV;simp;omega
  rw [e2] at a1
  repeat first|refine ZA ?_|refine BP ?_|refine BQ ?_
  refine ⟨(K.and kp).own a2 (fun k q=>(abb k q).1),o,rfl,a1,fun k q=> ?_⟩
  rcases a3 k q with q|q
  ·exact (abb k q).1
  ·omega
end
def oZ:BF:=⟨44,[0,1,4,5,17],(.seq (.reg [mvS 2 (.mv (.const .ae))]) (.seq (.seq (.iC [(ceS 6 1,[]),(ceS 7 0,[]),(nlE 8 7,[]),(faE 9 0 8,[]),(ldE 10 9,[]),(lnE 11 10,[]),(ceS 12 0,[]),(nlE 13 12,[]),(faE 14 1 13,[]),(ldE 15 14,[]),(mvE 16 (.bin .sub .no (eV 11) (eV 15)),[]),(mvS 4 (.bin .gtr .no (eV 6) (eV 16)),[])]) (.cond (sL 4) (.reg [mvE 18 (.yL 28 (.const (.int .i64 12))), .mk none .none (.pan (eV 18))]) .skip)) (.seq (.iC [(ceS 19 0,[]),(nlE 20 19,[]),(faE 21 0 20,[]),(ldE 22 21,[]),(ceS 23 0,[]),(nlE 24 23,[]),(faE 25 1 24,[]),(ldE 26 25,[]),(ceS 27 0,[]),(nlE 28 27,[]),(faE 29 1 28,[]),(ldE 30 29,[]),(ceS 31 1,[]),(mvE 32 (.bin .add .no (eV 30) (eV 31)),[]),(mvE 33 (.sl 1 (eV 22) (some (eV 26)) (some (eV 32)) none),[]),(clE 34 112 [eV 33],[]),(csE 3 34,[])]) (.seq (.reg [ceS 35 0,nlE 36 35,faE 37 1 36,ldE 38 37,ceS 39 1,mvE 40 (.bin .add .no (eV 38) (eV 39)),nlE 41 35,faE 42 1 41, .mk none .none (.eff (.store 1 (eV 42) (eV 40)))]) (.seq (.reg [ceS 43 3,csE 2 43]) .ret))))),[.slot (sL 2)]⟩
def jZ:BF:=⟨17,[0,1,4,5],(.seq (.reg [mvS 2 (.mv (.const (.int .i64 0)))]) (.seq (.reg [ceS 8 0,ceS 9 1,clE 10 192 [eV 8,eV 9],ceS 11 1,clE 12 115 [eV 10,eV 11],ceE 7 12,exE 13 0 7,exE 14 1 7,csE 3 13,ceE 6 14]) (.seq (.reg [ceS 15 3,mvE 16 (.conv .i64 (eV 15)),csE 2 16]) .ret))),[.slot (sL 2)]⟩
def lY:BF:=⟨39,[0,1,4,5,6,7,15,32],(.seq (.reg [.mk none (.slot 2) (.eff (.alloc [.ae, .ae,(.bool false)]))]) (.seq (.reg [ceS 8 0,clE 9 191 [eV 8,(.const (.int .i64 1))],ceS 10 0,clE 11 191 [eV 10,(.const (.int .i64 1))],csE 3 9,csE 4 11]) (.seq (.seq (.reg [ceS 12 3,ceS 13 1,lnE 14 13,mvS 6 (.bin .gtr .no (eV 12) (eV 14))]) (.cond (sL 6) (.reg [mvE 16 (.yL 28 (.const (.int .i64 12))), .mk none .none (.pan (eV 16))]) .skip)) (.seq (.reg [ceS 17 1,ceS 18 3,mvE 19 (.sl 1 (eV 17) none (some (eV 18)) none),clE 20 112 [eV 19],ceS 21 0,ceS 22 4,clE 23 192 [eV 21,eV 22],efE 24 (.append 1 1 (eV 20) (eV 23)),mvE 25 (.bld [.ae, .ae,(.bool false)] [(0,1,(eV 24))]), .mk none (.slot 5) (.eff (.alloc [.ae, .ae,(.bool false)])), .mk none .none (.eff (.store 3 (sL 5) (eV 25)))]) (.seq (.reg [ceS 26 0,clE 27 191 [eV 26,(.const (.int .i64 1))],mvE 28 (.bin .eql .no (eV 27) (.const (.int .i64 0))),mvE 29 (.aG 2 (sL 5)), .mk none .none (.eff (.store 1 (eV 29) (eV 28)))]) (.seq (.seq (.reg [mvE 30 (.aG 2 (sL 5)),ldE 31 30,mvS 7 (.jd (eV 31))]) (.cond (sL 7) (.reg [ceS 33 0,ceS 34 0,clE 35 191 [eV 34,(.const (.int .i64 2))],clE 36 192 [eV 33,eV 35],mvE 37 (.aG 1 (sL 5)), .mk none .none (.eff (.store 1 (eV 37) (eV 36)))]) .skip)) (.seq (.reg [mvE 38 (.ldn 3 (sL 5)), .mk none .none (.eff (.store 3 (sL 2) (eV 38)))]) .ret))))))),[.fG 3 (sL 2)]⟩
def jr:BF:=⟨28,[0,1,4,5,6,7,13,17],(.seq (.reg [mvS 2 (.mv (.const .ae))]) (.seq (.reg [mvS 3 (.mv (.const .ae))]) (.seq (.reg [mvS 4 (.mv (.const .ae))]) (.seq (.block 0 (.loop (.seq (.seq (.reg [ceS 8 0,nlE 9 8,faE 10 1 9,ldE 11 10,ceS 12 1,mvS 6 (.bin .lss .no (eV 11) (eV 12))]) (.cond (sL 6) .skip (.exit 0))) (.block 1 (.seq (.seq (.reg [ceS 14 3,lnE 15 14,mvE 16 (.bin .rem .no (eV 15) (.const (.int .i64 4))),mvS 7 (.bin .eql .no (eV 16) (.const (.int .i64 0)))]) (.cond (sL 7) (.reg [mvS 4 (.mv (.const .ae))]) .skip)) (.seq (.reg [ceS 18 0,ceS 19 4,clE 20 190 [eV 18,eV 19], .mk none (.slot 5) (.eff (.alloc [.ae, .ae,(.bool false)])), .mk none .none (.eff (.store 3 (sL 5) (eV 20)))]) (.seq (.reg [ceS 21 3,mvE 22 (.ldn 3 (sL 5)),efE 23 (.aF 3 1 [.ae, .ae,(.bool false)] [(0,3,(eV 22))]),efE 24 (.append 3 56 (eV 21) (eV 23)),csE 3 24]) (.reg [mvE 25 (.aG 0 (sL 5)),ldE 26 25,csE 4 26])))))))) (.seq (.reg [ceS 27 3,csE 2 27]) .ret))))),[.slot (sL 2)]⟩
structure KrT (E:Nat->Option (Ent MD)):Prop extends KdT E where
 take:E 192=some (.bc oZ)
 number:E 191=some (.bc jZ)
 entry:E 190=some (.bc lY)
 entries:E 185=some (.bc jr)
 WQ:E 115=some (.bc dU)
structure BRd (h:Hp MD) (g:Nat) (bv:AV) (bs:List UInt8) (p:Nat):Prop where
 bx:Bx h g [bv, .int .i64 p]
 rs:RS h 1 bv bs.length (bs.map ub)
 ne:bv≠ .bV
 sep:∀k,blk bv k->k≠g
theorem BRd.keep {S:Nat->Prop} {h h':Hp MD} {g:Nat} {bv:AV} {bs:List UInt8} {p:Nat} (a:BRd h g bv bs p) (k:Keep S h h') (hg:¬S g) (hb:∀k,blk bv k->¬S k):BRd h' g bv bs p:=⟨a.bx.keep k hg,a.rs.keep k hb,a.ne,a.sep⟩
theorem BRd.up {h h':Hp MD} {g:Nat} {bv:AV} {bs:List UInt8} {p:Nat} (a:BRd h g bv bs p) (k:Keep NoB h h'):BRd h' g bv bs p:=a.keep k (fun q=>q) (fun _ _ q=>q)
theorem BRd.lt {h:Hp MD} {g:Nat} {bv:AV} {bs:List UInt8} {p:Nat} (a:BRd h g bv bs p):g < h.n/\∀k,blk bv k->k < h.n:=⟨a.bx.lt,a.rs.lt⟩
section
variable {E:Nat->Option (Ent MD)}
structure Got (h:Hp MD) (g:Nat) (bv:AV) (bs:List UInt8) (p:Nat) (h':Hp MD):Prop where
 rd:BRd h' g bv bs p
 keep:Keep (az g) h h'
set_option maxHeartbeats 4000000 in
theorem zO (hE:∀f e,E f=some e->e.plain) (T:KrT E) {h:Hp MD} {g p n:Nat} {bv:AV} {bs:List UInt8} (R:BRd h g bv bs p) (hp:p+n<=bs.length) (hb:bs.length<=1099511627776):
  WF (lim E) 192 [.ptr g 0, .int .i64 n] h fun r h'=>Got h g bv bs (p+n) h'/\OS h' 1 r ((bs.drop p).take n).length (((bs.drop p).take n).map ub)/\∀k,blk r k->h.n<=k:=by
 refine aC hE T.take rfl ?_
 simp only [oZ,mvE,mvS,clE,efE,ceS,ceE,csE,faE,nlE,ldE,lnE,exE,eV,sL,kI,List.map,getS]
 have hc:¬(((bs.length:Int) - p) < n):=by omega
 have hgn:=R.bx.lt
 obtain ⟨w,r1,r2,r3,r4⟩:=R.rs.bytes (lo:=p) (hi:=p+n) (by omega) hp
 rw [show p+n - p=n by omega] at r1
 have hs:((p:Int)+n)=((p+n:Nat):Int):=by omega
 have va:∀{hh:Hp MD} {e:En} {t:List AV} {q:Eq} {x y:Od},x.ev e t= .int .i64 p->y.ev e t= .int .i64 n->(Mv.bin .add q x y).ev e t hh=some (.int .i64 ((p+n:Nat):Int)):=fun hx hy=>by rw [<-hs];exact rf hx hy rfl (by omega)
 repeat first|refine ZI ?_|refine CB (ak rfl) ?_|refine CB (au R.bx rfl rfl) ?_|refine CB (R.rs.ah (by rfl)) ?_|refine CB (rf (op:= .sub) rfl rfl rfl (by omega)) ?_|refine CB (va rfl rfl) ?_|refine CB (r4 (by rfl) (.inr ⟨_,_,rfl,rfl⟩) (.inr ⟨_,_,rfl,rfl⟩)) ?_|refine BV (ak rfl) ?_|refine BV (au R.bx rfl rfl) ?_|refine BV (R.rs.ah (by rfl)) ?_|refine BV (rf (op:= .sub) rfl rfl rfl (by omega)) ?_|refine BV (va rfl rfl) ?_|refine BV (r4 (by rfl) (.inr ⟨_,_,rfl,rfl⟩) (.inr ⟨_,_,rfl,rfl⟩)) ?_|refine BP ?_|refine BQ ?_|refine CC ?_
 have hle:((bs.drop p).take n).length<=bs.length:=by rw [List.length_take,List.length_drop];omega
 refine bF rfl ((lU hE T.clone r1 (r3 R.ne) (by omega)).mono fun c h1 ⟨⟨k1,l1⟩,o1⟩=> ?_)
 refine ⟨aW, ?_⟩
 have b1:=R.bx.up k1
 repeat first|refine ZI ?_|refine CB (ak rfl) ?_|refine CB (au b1 rfl rfl) ?_|refine CB (va rfl rfl) ?_|refine BV (ak rfl) ?_|refine BV (au b1 rfl rfl) ?_|refine BV (va rfl rfl) ?_|refine BW (fQ b1 rfl rfl ⟨rfl,rfl⟩ (Nat.lt_succ_self 1)) ?_|refine BP ?_|refine BQ ?_|refine CC ?_
 have kq:Keep (az g) h1 (h1.put g (.rw [bv, .int .i64 ((p+n:Nat):Int)])):=Keep.put _ _ _ rfl
 exact ⟨⟨⟨b1.put,(R.rs.up k1).keep kq (fun k q1 q2=>R.sep k q1 q2),R.ne,R.sep⟩,k1.any.trans kq (fun _ _ q=>q)⟩,o1.keep kq (fun k q1 q2=>by have:=l1 k q1;have q2:k=g:=q2;omega),l1⟩
theorem qo (hE:∀f e,E f=some e->e.plain) (T:KrT E) {h:Hp MD} {g p n:Nat} {bv:AV} {bs:List UInt8} (R:BRd h g bv bs p) (hp:p+n<=bs.length) (hb:bs.length<=1099511627776) (h7:n<=2):
  WF (lim E) 191 [.ptr g 0, .int .i64 n] h fun r h'=>Got h g bv bs (p+n) h'/\r= .int .i64 (be ((bs.drop p).take n):Nat):=by
 refine aC hE T.number rfl ?_
 simp only [jZ,mvE,mvS,clE,efE,ceS,ceE,csE,faE,nlE,ldE,lnE,exE,eV,sL,kI,List.map,getS]
 repeat first|refine ZA ?_|refine BP ?_|refine BQ ?_
 refine ag rfl ((zO hE T R hp hb).mono fun c h1 ⟨G,o1,_⟩=> ?_)
 have hlen:((bs.drop p).take n).length=n:=by rw [List.length_take,List.length_drop];omega
 repeat first|refine ZA ?_|refine BP ?_|refine BQ ?_
 refine ag rfl ((rq hE T.WQ o1.rs (n:=n) (by omega) (by omega)).mono fun r h2 ⟨e2,e3⟩=> ?_)
 subst e2 e3
 have hbl:=GU ((bs.drop p).take n)
 rw [List.take_of_length_le (by omega)]
 have hbn:be ((bs.drop p).take n) < 16777216:=by
  refine Nat.lt_of_lt_of_le hbl ?_
  rw [hlen]
  exact Nat.le_trans (Nat.pow_le_pow_right (by decide) h7) (by decide)
 repeat first|refine ZA ?_|refine BV (cZ rfl (by omega)) ?_|refine BP ?_|refine BQ ?_
 exact ⟨G,rfl⟩
theorem WS {X:Type} {e:En} {t:List AV} {h:Hp X} {z0 z1 z2:AV} {x:Od} {a:AV} (ha:cellsOf a=some [a]) (hx:x.ev e t=a:=by rfl):(Mv.bld [z0,z1,z2] [(0,1,x)]).ev e t h=some (.agg [a,z1,z2]):=by
 simp only [Mv.ev,List.map,hx,fillA,ha]
 rfl
theorem Ic {α:Type} {l r:List α} {p j:Nat} (h:l.drop p=r):l.drop (p+j)=r.drop j:=by rw [<-h,List.drop_drop]
set_option maxHeartbeats 8000000 in
theorem Oy (hE:∀f e,E f=some e->e.plain) (T:KrT E) {h:Hp MD} {g p:Nat} {bv lv:AV} {bs last rest:List UInt8} {e:EM} (R:BRd h g bv bs p) (hb:bs.length<=1099511627776) (hD:bs.drop p=kP last e++rest) (hp:p<=bs.length) (hl:RS h 1 lv last.length (last.map ub)) (hne:lv≠ .bV) (hlg:∀k,blk lv k->k≠g)
  (hok:okE e=true) (hn:vX e) (hlast:last.length<=1000000):
  WF (lim E) 190 [.ptr g 0,lv] h fun r h'=>Got h g bv bs (p+(kP last e).length) h'/\∃q,r= .agg (f3 q)/\eH h' q e/\∀k,blk q.1 k\/blk q.2.1 k->h.n<=k:=by
 refine aC hE T.entry rfl ?_
 simp only [lY,mvE,mvS,clE,efE,ceS,ceE,csE,faE,nlE,ldE,lnE,exE,eV,sL,kI,List.map,getS]
 have hmx:(maxLen:Nat)=9223372036854775807:=rfl
 obtain ⟨z1,z2,z3⟩:=kQ hok
 obtain ⟨s1,s2,s3⟩:=EO last e.key
 have hgl:=R.lt
 have hlen:=congrArg List.length hD
 rw [List.length_drop,List.length_append] at hlen
 generalize hsn:shF last e.key=n at s1 s2 s3
 have hE':kP last e=UInt8.ofNat n::UInt8.ofNat (e.key.length - n)::(e.key.drop n++(if e.gone then [0] else 1::(encB e.val.length 2++e.val))):=by unfold kP;rw [hsn]
 generalize htl:(if e.gone then [0] else 1::(encB e.val.length 2++e.val):List UInt8)=tl at hE'
 have hEl:(kP last e).length=2+(e.key.length - n)+tl.length:=by rw [hE'];simp;omega
 have d0:(bs.drop p).take 1=[UInt8.ofNat n]:=by rw [hD,hE'];rfl
 have d1:(bs.drop (p+1)).take 1=[UInt8.ofNat (e.key.length - n)]:=by rw [Ic hD,hE'];rfl
 have d2':bs.drop (p+2)=e.key.drop n++(tl++rest):=by rw [Ic hD,hE'];simp
 have d2:(bs.drop (p+2)).take (e.key.length - n)=e.key.drop n:=by rw [d2',List.take_left' (by simp)]
 have d3':bs.drop (p+2+(e.key.length - n))=tl++rest:=by rw [Ic d2',List.drop_left' (by simp)]
 have b0:be [UInt8.ofNat n]=n:=by rw [EL,LV (by omega)]
 have b1:be [UInt8.ofNat (e.key.length - n)]=e.key.length - n:=by rw [EL,LV (by omega)]
 have bx:Bx (h.push (.rw [.ae, .ae, .bool false])) h.n _:=aH
 have k1:Keep NoB h (h.push (.rw [.ae, .ae, .bool false])):=Keep.push _ _ _
 obtain ⟨h1,hh1⟩:∃h1:Hp MD,h1=h.push (.rw [.ae, .ae, .bool false]):=⟨_,rfl⟩
 rw [<-hh1] at bx k1
 have n1:h1.n=h.n+1:=by rw [hh1];rfl
 repeat first|refine ZA ?_|refine BP ?_|refine BQ ?_
 refine aJ (h':=h1) (by rw [hh1];first|done|rfl) ?_
 clear hh1
 refine ag rfl ((qo hE T (R.up k1) (n:=1) (by omega) hb (by omega)).mono fun r h2 ⟨G2,e2⟩=> ?_)
 subst e2
 rw [d0,b0]
 have bx2:=bx.keep G2.keep (fun q=>by have q:h.n=g:=q;omega)
 repeat first|refine ZA ?_|refine BP ?_|refine BQ ?_
 refine ag rfl ((qo hE T G2.rd (n:=1) (by omega) hb (by omega)).mono fun r h3 ⟨G3,e3⟩=> ?_)
 subst e3
 rw [d1,b1]
 have bx3:=bx2.keep G3.keep (fun q=>by have q:h.n=g:=q;omega)
 have K3:Keep (az g) h h3:=(k1.any.trans G2.keep (fun _ _ q=>q)).trans G3.keep (fun _ _ q=>q)
 have hl3:=hl.keep K3 (fun k q1 q2=>hlg k q1 q2)
 have n3:=K3.n
 have n13:=(G2.keep.trans G3.keep (fun _ _ q=>q)).n
 have hnl:¬((last.length:Int) < n):=by omega
 obtain ⟨w,r1,r2,r3,r4⟩:=hl3.bytes (lo:=0) (hi:=n) (Nat.zero_le _) s1
 rw [List.drop_zero,Nat.sub_zero] at r1
 have htn:(last.take n).length=n:=by rw [List.length_take];omega
 repeat first|refine ZA ?_|refine BV (hl3.ah (by rfl)) ?_|refine BV (r4 (by rfl) (.inl ⟨rfl,rfl⟩) (.inr ⟨_,_,rfl,rfl⟩)) ?_|refine BP ?_|refine BQ ?_
 refine ag rfl ((lU hE T.clone r1 (r3 hne) (by omega)).mono fun kc h4 ⟨⟨k4,l4⟩,o4⟩=> ?_)
 have R4:=G3.rd.up k4
 have bx4:=bx3.up k4
 have n4:=k4.n
 have K4:=K3.and k4
 repeat first|refine ZA ?_|refine BP ?_|refine BQ ?_
 refine ag rfl ((zO hE T R4 (n:=e.key.length - n) (by omega) hb).mono fun kd h5 ⟨G5,o5,l5⟩=> ?_)
 rw [show p+1+1=p+2 by omega,d2] at o5
 have R5:=G5.rd
 have bx5:=bx4.keep G5.keep (fun q=>by have q:h.n=g:=q;omega)
 have o45:=o4.keep G5.keep (fun k q1 q2=>by have:=l4 k q1;have q2:k=g:=q2;omega)
 have K5:=K4.trans G5.keep (fun _ _ q=>q)
 have n5:=G5.keep.n
 have hdl:(e.key.drop n).length=e.key.length - n:=by simp
 repeat first|refine ZA ?_|refine BP ?_|refine BQ ?_
 refine aA rfl rfl o45 Nat.zero_lt_one o5.rs (by omega) (by omega) fun kv h6 a1 a2 a3=> ?_
 have ek:(last.take n).map ub++(e.key.drop n).map ub=e.key.map ub:=by rw [<-List.map_append,s3,List.take_append_drop]
 have en:(last.take n).length+(e.key.drop n).length=e.key.length:=by omega
 rw [ek,en] at a1
 have n6:=a2.n
 have lk:∀k,blk kv k->h1.n<=k:=fun k q=>by
  rcases a3 k q with q|q
  ·have:=l4 k q;omega
  ·omega
 have R6:=R5.keep a2 (fun q=>by have:=l4 _ q;omega) (fun k q1 q2=>by have:=l4 k q2;have:=hgl.2 k q1;omega)
 have bx6:=bx5.keep a2 (fun q=>by have:=l4 _ q;omega)
 have K6:Keep (az g) h h6:=K5.on a2 (fun k q=> .inl (by have:=l4 k q;omega))
 have hall:allOne [kv, .ae, .bool false]=true:=aX a1.one.2 rfl rfl
 have b7:Bx (h6.push (.rw [.ae, .ae, .bool false])) h6.n _:=aH
 have k7:Keep NoB h6 (h6.push (.rw [.ae, .ae, .bool false])):=Keep.push _ _ _
 have k8:Keep (az h6.n) (h6.push (.rw [.ae, .ae, .bool false])) ((h6.push (.rw [.ae, .ae, .bool false])).put h6.n (.rw [kv, .ae, .bool false])):=Keep.put _ _ _ rfl
 have b8:Bx ((h6.push (.rw [.ae, .ae, .bool false])).put h6.n (.rw [kv, .ae, .bool false])) h6.n [kv, .ae, .bool false]:=b7.put
 have k68:Keep NoB h6 ((h6.push (.rw [.ae, .ae, .bool false])).put h6.n (.rw [kv, .ae, .bool false])):=k7.own k8 (fun k q=>by have q:k=h6.n:=q;omega)
 obtain ⟨h8,hh8⟩:∃h8:Hp MD,h8=(h6.push (.rw [.ae, .ae, .bool false])).put h6.n (.rw [kv, .ae, .bool false]):=⟨_,rfl⟩
 rw [<-hh8] at b8 k68
 have n8:h8.n=h6.n+1:=by rw [hh8];rfl
 have R8:=R6.up k68
 have bx8:=bx6.up k68
 have o8:=a1.up k68
 have K8:=K6.and k68
 have hv1:cellsOf kv=some [kv]:=a1.one.1
 repeat first|refine ZA ?_|refine BV (WS hv1) ?_|refine BW (aV b7 rfl rfl hall rfl (Nat.le_refl _)) ?_|refine BP ?_|refine BQ ?_
 refine aJ (h':=h8) (by rw [hh8];first|done|rfl) ?_
 clear hh8 k8 b7 k7
 have d3l:(tl++rest).length=bs.length - (p+2+(e.key.length - n)):=by rw [<-d3',List.length_drop]
 rw [List.length_append] at d3l
 have ht1:1<=tl.length:=by rw [<-htl];split<;>simp
 refine ag rfl ((qo hE T R8 (n:=1) (by omega) hb (by omega)).mono fun r h9 ⟨G9,e9⟩=> ?_)
 subst e9
 have R9:=G9.rd
 have bx9:=bx8.keep G9.keep (fun q=>by have q:h.n=g:=q;omega)
 have b9:=b8.keep G9.keep (fun q=>by have q:h6.n=g:=q;omega)
 have o9:=o8.keep G9.keep (fun k q1 q2=>by have:=lk k q1;have q2:k=g:=q2;omega)
 have K9:=K8.trans G9.keep (fun _ _ q=>q)
 have n9:=G9.keep.n
 rw [show p+1+1+(e.key.length - n)=p+2+(e.key.length - n) by omega] at R9 ⊢
 rw [d3']
 have fin:∀{h10:Hp MD} {vx:AV} {m:Nat} {t3 t4 t6 t7:AV},BRd h10 g bv bs m->m=p+(kP last e).length->Bx h10 h.n [.ae, .ae, .bool false]->Keep (az g) h h10->h6.n < h10.n->OS h10 1 kv e.key.length (e.key.map ub)->RS h10 1 vx e.val.length (e.val.map ub)->vx≠ .bV->(∀k,blk vx k->h1.n<=k)->
   ∃l,resV [.ptr g 0,lv, .ptr h.n 0,t3,t4, .ptr h6.n 0,t6,t7] (h10.put h.n (.rw [kv,vx, .bool e.gone])) [.fG 3 (.slot 2)]=some l/\(fun r h'=>Got h g bv bs (p+(kP last e).length) h'/\∃q,r= .agg (f3 q)/\eH h' q e/\∀k,blk q.1 k\/blk q.2.1 k->h.n<=k) (packA l) (h10.put h.n (.rw [kv,vx, .bool e.gone])):=fun {h10 vx m t3 t4 t6 t7} RR hm bb KK hn10 oo vv vs lv'=>by
  subst hm
  have kw:Keep (az h.n) h10 (h10.put h.n (.rw [kv,vx, .bool e.gone])):=Keep.put _ _ _ rfl
  refine ⟨_,yD rfl (Hp.bW _ _ _) (Nat.le_refl 3),⟨RR.keep kw (fun q=>by have q:g=h.n:=q;omega) (fun k q1 q2=>by have:=hgl.2 k q1;have q2:k=h.n:=q2;omega),KK.on kw (fun k q=> .inl (by have q:k=h.n:=q;omega))⟩,(kv,vx,e.gone),rfl,⟨rfl,(oo.keep kw (fun k q1 q2=>by have:=lk k q1;have q2:k=h.n:=q2;omega)).rs,vv.keep kw (fun k q1 q2=>by have:=lv' k q1;have q2:k=h.n:=q2;omega),vs⟩,fun k q=> ?_⟩
  rcases q with q|q
  ·have:=lk k q;omega
  ·have:=lv' k q;omega
 cases hg:e.gone with
 |true=>
  rw [hg,if_pos rfl] at htl
  have hv0:=hn hg
  have e0:be ((tl++rest).take 1)=0:=by rw [<-htl];rfl
  rw [e0]
  have kr:Keep (az h6.n) h9 (h9.put h6.n (.rw [kv, .ae, .bool true])):=Keep.put _ _ _ rfl
  have br:Bx (h9.put h6.n (.rw [kv, .ae, .bool true])) h6.n [kv, .ae, .bool true]:=b9.put
  have bxr:=bx9.keep kr (fun q=>by have q:h.n=h6.n:=q;omega)
  have Rr:=R9.keep kr (fun q=>by have q:g=h6.n:=q;omega) (fun k q1 q2=>by have:=hgl.2 k q1;have q2:k=h6.n:=q2;omega)
  have or_:=o9.keep kr (fun k q1 q2=>by have:=a1.lt k q1;have q2:k=h6.n:=q2;omega)
  have Kr:=K9.on kr (fun k q=> .inl (by have q:k=h6.n:=q;omega))
  rw [hg] at fin
  have SI:allOne [kv, .ae, .bool true]=true:=aX a1.one.2 rfl rfl
  have hz:((0:Nat):Int)=0:=rfl
  obtain ⟨l,p1,p2⟩:=fin (vx:= .ae) (t3:= .int .i64 n) (t4:= .int .i64 ((e.key.length - n:Nat):Int)) (t6:= .bool false) (t7:= .bool false) Rr (by rw [hEl,<-htl];simp;omega) bxr Kr (by simp only [qZ];omega) or_ (by rw [hv0];exact ⟨rfl,rfl⟩) (fun q=>by cases q) (fun k q=>q.elim)
  repeat first|refine ZA ?_|refine BV (au br rfl rfl) ?_|refine BV (di rfl) ?_|refine BV (dh br rfl (Nat.le_refl _)) ?_|refine BW (fQ b9 rfl rfl ⟨rfl,rfl⟩ (Nat.lt_succ_self 2)) ?_|refine BW (aV bxr rfl rfl SI rfl (Nat.le_refl _)) ?_|refine BP ?_|refine BQ ?_
  exact AT p1 p2
 |false=>
  rw [hg,if_neg (by simp)] at htl
  have e0:be ((tl++rest).take 1)=1:=by rw [<-htl];rfl
  rw [e0]
  have d4':bs.drop (p+2+(e.key.length - n)+1)=encB e.val.length 2++(e.val++rest):=by rw [Ic d3',<-htl];simp
  have z3:e.val.length<=4095:=by unfold EM.v at z3;rw [hg] at z3;exact z3
  have d4:be ((bs.drop (p+2+(e.key.length - n)+1)).take 2)=e.val.length:=by rw [d4',List.take_left' (aB _ _),ni (by omega)]
  have d5:(bs.drop (p+2+(e.key.length - n)+1+2)).take e.val.length=e.val:=by rw [Ic d4',List.drop_left' (aB _ _),List.take_left' rfl]
  have acd:tl.length=3+e.val.length:=by rw [<-htl];simp [aB];omega
  have kr:Keep (az h6.n) h9 (h9.put h6.n (.rw [kv, .ae, .bool false])):=Keep.put _ _ _ rfl
  have br:Bx (h9.put h6.n (.rw [kv, .ae, .bool false])) h6.n [kv, .ae, .bool false]:=b9.put
  have bxr:=bx9.keep kr (fun q=>by have q:h.n=h6.n:=q;omega)
  have Rr:=R9.keep kr (fun q=>by have q:g=h6.n:=q;omega) (fun k q1 q2=>by have:=hgl.2 k q1;have q2:k=h6.n:=q2;omega)
  have or_:=o9.keep kr (fun k q1 q2=>by have:=a1.lt k q1;have q2:k=h6.n:=q2;omega)
  have Kr:=K9.on kr (fun k q=> .inl (by have q:k=h6.n:=q;omega))
  have br0:=br
  obtain ⟨hr,hhr⟩:∃hr:Hp MD,hr=h9.put h6.n (.rw [kv, .ae, .bool false]):=⟨_,rfl⟩
  rw [<-hhr] at br bxr Rr or_ Kr
  have nr:hr.n=h9.n:=by rw [hhr];rfl
  have hz:¬(((1:Nat):Int)=0):=by decide
  repeat first|refine ZA ?_|refine BV (au br0 rfl rfl) ?_|refine BV (di rfl) ?_|refine BW (fQ b9 rfl rfl ⟨rfl,rfl⟩ (Nat.lt_succ_self 2)) ?_|refine BP ?_|refine BQ ?_
  refine aJ (h':=hr) (by rw [hhr];first|done|rfl) ?_
  clear kr hhr br0
  refine ag rfl ((qo hE T Rr (n:=2) (by omega) hb (by omega)).mono fun r ha ⟨Ga,ea⟩=> ?_)
  subst ea
  rw [d4]
  have na:=Ga.keep.n
  have bra:=br.keep Ga.keep (fun q=>by have q:h6.n=g:=q;omega)
  have bxa:=bxr.keep Ga.keep (fun q=>by have q:h.n=g:=q;omega)
  have oa:=or_.keep Ga.keep (fun k q1 q2=>by have:=lk k q1;have q2:k=g:=q2;omega)
  have Ka:=Kr.trans Ga.keep (fun _ _ q=>q)
  repeat first|refine ZA ?_|refine BP ?_|refine BQ ?_
  refine ag rfl ((zO hE T Ga.rd (n:=e.val.length) (by omega) hb).mono fun vx hb' ⟨Gb,ob,lb⟩=> ?_)
  rw [d5] at ob
  have nb:=Gb.keep.n
  have brb:=bra.keep Gb.keep (fun q=>by have q:h6.n=g:=q;omega)
  have bxb:=bxa.keep Gb.keep (fun q=>by have q:h.n=g:=q;omega)
  have oob:=oa.keep Gb.keep (fun k q1 q2=>by have:=lk k q1;have q2:k=g:=q2;omega)
  have Kb:=Ka.trans Gb.keep (fun _ _ q=>q)
  have kc:Keep (az h6.n) hb' (hb'.put h6.n (.rw [kv,vx, .bool false])):=Keep.put _ _ _ rfl
  have brc:Bx (hb'.put h6.n (.rw [kv,vx, .bool false])) h6.n [kv,vx, .bool false]:=brb.put
  have bxc:=bxb.keep kc (fun q=>by have q:h.n=h6.n:=q;omega)
  have Rc:=Gb.rd.keep kc (fun q=>by have q:g=h6.n:=q;omega) (fun k q1 q2=>by have:=hgl.2 k q1;have q2:k=h6.n:=q2;omega)
  have oc:=oob.keep kc (fun k q1 q2=>by have:=a1.lt k q1;have q2:k=h6.n:=q2;omega)
  have vc:=ob.keep kc (fun k q1 q2=>by have:=lb k q1;have q2:k=h6.n:=q2;omega)
  have Kc:=Kb.on kc (fun k q=> .inl (by have q:k=h6.n:=q;omega))
  have SI:allOne [kv,vx, .bool false]=true:=aX a1.one.2 ob.one.2 rfl
  rw [hg] at fin
  obtain ⟨l,p1,p2⟩:=fin (vx:=vx) (t3:= .int .i64 n) (t4:= .int .i64 ((e.key.length - n:Nat):Int)) (t6:= .bool false) (t7:= .bool true) Rc (by rw [hEl,acd];omega) bxc Kc (by simp only [qZ];omega) oc vc.rs ob.vP (fun k q=>by have:=lb k q;omega)
  repeat first|refine ZA ?_|refine BV (dh brc rfl (Nat.le_refl _)) ?_|refine BW (fQ brb rfl rfl ob.one (Nat.succ_lt_succ (Nat.zero_lt_succ _))) ?_|refine BW (aV bxc rfl rfl SI rfl (Nat.le_refl _)) ?_|refine BP ?_|refine BQ ?_
  exact AT p1 p2
end
def jK:DF:=⟨25,[0,2,3,7],(.right (.reg [.mk none (.slot 1) (.eff (.alloc [.ae]))]) (.left (.here (.IP 184 [(.slot 1)]) (.env 4) (.env 4)) (.seq (.seq (.reg [.mk none (.env 5) (.mov (.mv (.slot 0))), .mk none (.env 6) (.mov (.ah (.env 5))), .mk none (.slot 3) (.mov (.bin .eql .no (.env 6) (.const (.int .i64 0))))]) (.cond (.slot 3) (.seq (.reg [.mk none .none (.eff (.store 1 (.slot 1) (.const .ae)))]) .ret) .skip)) (.seq (.reg [.mk none (.env 8) (.mov (.mv (.slot 0))), .mk none (.env 9) (.mov (.ah (.env 8))), .mk none (.env 10) (.mov (.bin .sub .no (.env 9) (.const (.int .i64 1)))), .mk none (.env 11) (.mov (.mv (.slot 0))), .mk none (.env 12) (.mov (.mv (.slot 0))), .mk none (.env 13) (.mov (.ah (.env 12))), .mk none (.env 14) (.mov (.bin .sub .no (.env 13) (.const (.int .i64 1)))), .mk none (.env 15) (.mov (.aP 1 (.env 11) (.env 14))), .mk none (.env 16) (.mov (.ld1 (.env 15))), .mk none (.env 17) (.mov (.conv .i64 (.env 16))), .mk none (.env 18) (.mov (.bin .mul .no (.const (.int .i64 2)) (.env 17))), .mk none (.env 19) (.mov (.bin .sub .no (.env 10) (.env 18))), .mk none (.slot 2) (.mov (.mv (.env 19)))]) (.seq (.reg [.mk none (.env 20) (.mov (.mv (.slot 0))), .mk none (.env 21) (.mov (.bld [.ae,(.int .i64 0)] [(0,1,(.env 20))])), .mk none (.env 22) (.eff (.box (.env 21))), .mk none (.env 23) (.mov (.mv (.slot 2))), .mk none (.env 24) (.call 185 [(.env 22),(.env 23)]), .mk none .none (.eff (.store 1 (.slot 1) (.env 24)))]) .ret))))),[.cell1 (.slot 1)],⟨184,3,[0,2],(.env 1),(.slot 1),(.cond (.slot 1) (.reg [.mk none .none (.eff (.store 1 (.slot 0) (.const .ae)))]) .skip)⟩⟩
def rJ:BF:=⟨24,[0,2,3,4,5,6,22],(.seq (.reg [mvS 1 (.mv (.const .ae)),mvS 2 (.mv (.const (.int .i64 0)))]) (.seq (.reg [ceS 7 0,clE 8 173 [eV 7],csE 3 8]) (.seq (.reg [ceS 10 3,clE 11 161 [eV 10],ceE 9 11,exE 12 0 9,exE 13 1 9,csE 4 12,csE 5 13]) (.seq (.seq (.reg [ceS 14 5,mvE 15 (.bin .neq .no (eV 14) (.const (.int .i64 0))),ceE 16 15, .mk (some ((eV 16),false)) (.env 17) (.mov (.mv (sL 4))), .mk (some ((eV 16),false)) (.env 18) (.mov (.b2s (eV 17))), .mk (some ((eV 16),false)) (.env 19) (.mov (.mv (sL 0))), .mk (some ((eV 16),false)) (.env 20) (.mov (.b2s (eV 19))), .mk (some ((eV 16),false)) (.env 21) (.mov (.bin .neq .no (eV 18) (eV 20))),mvS 6 (.pick (eV 16) (.const (.bool true)) (eV 21))]) (.cond (sL 6) (.seq (.reg [mvS 1 (.mv (.const .ae)),mvS 2 (.mv (.const (.int .i64 12)))]) .ret) .skip)) (.seq (.reg [ceS 23 3,csE 1 23,mvS 2 (.mv (.const (.int .i64 0)))]) .ret))))),[.slot (sL 1), .slot (sL 2)]⟩
structure KaT (E:Nat->Option (Ent MD)):Prop extends KrT E where
 read:E 173=some (.df jK)
 ace:E 156=some (.bc rJ)
theorem WT {X:Type} {e:En} {t:List AV} {h:Hp X} {z0 z1:AV} {x:Od} {a:AV} (ha:cellsOf a=some [a]) (hx:x.ev e t=a:=by rfl):(Mv.bld [z0,z1] [(0,1,x)]).ev e t h=some (.agg [a,z1]):=by
 simp only [Mv.ev,List.map,hx,fillA,ha]
 rfl
section
variable {E:Nat->Option (Ent MD)}
set_option maxHeartbeats 8000000 in
theorem Ie (hE:∀f e,E f=some e->e.plain) (T:KrT E) {h:Hp MD} {g:Nat} {bv:AV} {l:List EM} {more:List UInt8} (R:BRd h g bv (dQ l++more) 0) (hb:(dQ l++more).length<=1099511627776) (P:∀e∈l,okE e=true) (N:∀e∈l,vX e) (hl:l.length<=1000000):
  WF (lim E) 185 [.ptr g 0, .int .i64 (dQ l).length] h fun r h'=>Keep (az g) h h'/\OE h' r l h.n (fun k=>h.n<=k):=by
 refine aC hE T.entries rfl ?_
 simp only [jr,mvE,mvS,clE,efE,ceS,ceE,csE,faE,nlE,ldE,lnE,exE,eV,sL,kI,List.map,getS]
 have hmx:(maxLen:Nat)=9223372036854775807:=rfl
 have hgn:=R.lt
 repeat first|refine ZE ?_|refine BP ?_|refine BQ ?_
 refine aQ (fun n t hh=>∃(i:Nat) (ov lv s5 s6 s7:AV),i<=l.length/\n=l.length - i/\Keep (az g) h hh/\BRd hh g bv (dQ l++more) (dQ (l.take i)).length/\OE hh ov (l.take i) h.n (fun k=>h.n<=k)/\RS hh 1 lv (lastK [] (l.take i)).length ((lastK [] (l.take i)).map ub)/\lv≠ .bV/\(∀k,blk lv k->h.n<=k/\¬blk ov k)/\
  t=[.ptr g 0, .int .i64 (dQ l).length, .ae,ov,lv,s5,s6,s7]) ?_ l.length _ _ ⟨0, .ae, .ae,_,_,_,by omega,by omega,Keep.refl _ _,R,OE.nil,⟨rfl,rfl⟩,(fun q=>by cases q),fun k q=>q.elim,rfl⟩
 rintro n t hh ⟨i,ov,lv,s5,s6,s7,hi,hn,K,RR,oe,hlv,hne,lvb,rfl⟩
 have nK:=K.n
 by_cases hlt:i < l.length
 ·obtain ⟨x,hx⟩:∃x,l[i]?=some x:=⟨_,List.getElem?_eq_getElem hlt⟩
  obtain ⟨rest,hrest⟩:=WA hx
  have hpos:=(H9 (gV l i) x).1
  have hbl:(dQ (l.take i)).length < (dQ l).length:=by rw [hrest,List.length_append,List.length_append];omega
  have hble:(dQ l++more).length=(dQ l).length+more.length:=List.length_append ..
  have hD:(dQ l++more).drop (dQ (l.take i)).length=kP (gV l i) x++(rest++more):=by rw [hrest,List.append_assoc,List.drop_left' rfl,List.append_assoc]
  have hlm:(l.take i).length=i:=zJ hx
  have hor:∃tri:List T3,RS hh 3 ov (l.take i).length (tri.flatMap f3):=by obtain ⟨tri,h1,_⟩:=oe.out;exact ⟨tri,h1.rs⟩
  obtain ⟨tr,hor⟩:=hor
  rw [hlm] at hor
  repeat first|refine ZE ?_|refine BV (ak rfl) ?_|refine BV (au RR.bx rfl rfl) ?_|refine BV (hor.ah (by rfl)) ?_|refine BV (SH rfl rfl) ?_|refine BV (Ll rfl rfl rfl) ?_|refine BP ?_|refine BQ ?_
  refine uK (fun t' g6=>g6=hh/\∃(lv' c:AV),RS hh 1 lv' (gV l i).length ((gV l i).map ub)/\lv'≠ .bV/\(∀k,blk lv' k->h.n<=k/\¬blk ov k)/\t'=[.ptr g 0, .int .i64 (dQ l).length, .ae,ov,lv',s5, .bool true,c]) ?_ ?_
  ·by_cases hm:i % 4=0
   ·refine AF rfl (decide_eq_true (by omega)) ?_
    have hla:gV l i=[]:=by unfold gV;rw [if_pos hm]
    repeat first|refine ZE ?_|refine BP ?_|refine BQ ?_
    exact bK ⟨rfl, .ae,_,by rw [hla];exact ⟨rfl,rfl⟩,(fun q=>by cases q),fun k q=>q.elim,rfl⟩
   ·refine AG rfl (decide_eq_false (by omega)) ?_
    have hla:gV l i=lastK [] (l.take i):=by unfold gV;rw [if_neg hm]
    repeat first|refine ZE ?_|refine BP ?_|refine BQ ?_
    exact bK ⟨rfl,lv,_,by rw [hla];exact hlv,hne,lvb,rfl⟩
  rintro t' g6 ⟨rfl,lv',c,acf,hne',acg,rfl⟩
  have lal:(gV l i).length<=1000000:=by
   unfold gV
   split
   ·simp
   ·cases i with
    |zero=>simp [lastK]
    |succ j=>
     rw [qm (List.getElem?_eq_getElem (show j < l.length by omega))]
     have:=kQ (P l[j] (List.getElem_mem _));omega
  have hok:=P x (List.mem_of_getElem? hx)
  have hnx:=N x (List.mem_of_getElem? hx)
  repeat first|refine ZE ?_|refine BP ?_|refine BQ ?_
  refine ag rfl ((Oy hE T RR hb hD (by omega) acf hne' (fun k q=>by have:=(acg k q).1;omega) hok hnx lal).mono fun r g7 ⟨G,q,e7,hv,lq⟩=> ?_)
  subst e7
  have n7:=G.keep.n
  have bsn:(dQ (l.take i)).length+(kP (gV l i) x).length=(dQ (l.take (i+1))).length:=by rw [zK hx,List.length_append]
  have RR7:=G.rd
  rw [bsn] at RR7
  have oln:=oe.lt
  have oe7:=oe.SK G.keep (fun k q=>by have q:k=g:=q;omega) (fun k q=>q)
  have K7:=K.trans G.keep (fun _ _ q=>q)
  obtain ⟨qa,qb,qc⟩:=q
  have hall:allOne (f3 (qa,qb,qc))=true:=aX hv.key.one.2 hv.val.one.2 rfl
  have b3:Bx (g7.push (.rw [.ae, .ae, .bool false])) g7.n _:=aH
  have k4:Keep NoB g7 (g7.push (.rw [.ae, .ae, .bool false])):=Keep.push _ _ _
  have kq:Keep (az g7.n) (g7.push (.rw [.ae, .ae, .bool false])) ((g7.push (.rw [.ae, .ae, .bool false])).put g7.n (.rw [qa,qb, .bool qc])):=Keep.put _ _ _ rfl
  have k5:Keep NoB g7 ((g7.push (.rw [.ae, .ae, .bool false])).put g7.n (.rw [qa,qb, .bool qc])):=k4.own kq (fun k q=>by have q:k=g7.n:=q;omega)
  have b5:Bx ((g7.push (.rw [.ae, .ae, .bool false])).put g7.n (.rw [qa,qb, .bool qc])) g7.n [qa,qb, .bool qc]:=b3.put
  repeat first|refine ZE ?_|refine BV (dh b5 rfl (Nat.le_refl _)) ?_|refine BW (aV b3 rfl rfl hall rfl (Nat.le_refl _)) ?_|refine BW (ji rfl hv.key.one.2 hv.val.one.2) ?_|refine BP ?_|refine BQ ?_
  obtain ⟨g8,hg8⟩:∃g8:Hp MD,g8=(g7.push (.rw [.ae, .ae, .bool false])).put g7.n (.rw [qa,qb, .bool qc]):=⟨_,rfl⟩
  refine aJ (h':=g8.push (.rw (f3 (qa,qb,qc)))) (by rw [hg8];first|done|rfl) ?_
  rw [<-hg8] at k5 b5
  have n8:g8.n=g7.n+1:=by rw [hg8];rfl
  clear kq k4 b3 hg8
  have hv8:=hv.up k5
  obtain ⟨cells,o1,o2,o3⟩:=(oe7.up k5).next hv8 (fun k q=>⟨by have:=lq k q;omega,fun q2=>by have:=lq k q;have:=oln k q2;omega⟩) (by omega)
  have eg:g7.n+1=g8.n:=n8.symm
  refine aA rfl (show _=AV.slice 3 g8.n 0 1 (some 1) by rw [n8];rfl) o1 (by decide) o2 (by omega) (by omega) fun ov' g9 a1 a2 a3=> ?_
  obtain ⟨p1,p2⟩:=o3 ov' g9 a1 a2 a3
  have n9:=p2.n
  have b9:=b5.keep p2 (fun q=>by have:=oln _ q;omega)
  have hv9:=hv8.key.keep p2 (fun k q1 q2=>by have:=lq k (.inl q1);have:=oln k q2;omega)
  have RR9:=(RR7.up k5).keep p2 (fun q=>by have:=oe.lo _ q;omega) (fun k q1 q2=>by have:=oe.lo k q2;have:=hgn.2 k q1;omega)
  repeat first|refine ZE ?_|refine BV (au b9 rfl rfl) ?_|refine BP ?_|refine BQ ?_
  refine aj (n - 1) (by omega) ⟨i+1,ov',qa,_,_,_,by omega,by omega,(K7.and k5).on p2 (fun k q=> .inl (oe.lo k q)),RR9, ?_,by rw [qm hx];exact hv9,hv.key.nse (by have:=kQ hok;omega),fun k q=>⟨by have:=lq k (.inl q);omega,fun q2=> ?_⟩,rfl⟩
  ·rw [take_snoc hx];exact p1
  ·have h1:=lq k (.inl q)
   rcases a3 k q2 with q3|q3
   ·have:=oln k q3;omega
   ·have:=hv8.key.lt k q;simp only [bJ] at q3;omega
 ·have e:i=l.length:=by omega
  subst e
  rw [List.take_length] at oe RR
  have hnl:¬(((dQ l).length:Int) < (dQ l).length):=by omega
  repeat first|refine ZE ?_|refine BV (ak rfl) ?_|refine BV (au RR.bx rfl rfl) ?_|refine BP ?_|refine BQ ?_
  exact ⟨K,oe⟩
set_option maxHeartbeats 8000000 in
theorem SL (hE:∀f e,E f=some e->e.plain) (T:KaT E) {h:Hp MD} {v:AV} {l:List EM} (hr:RS h 1 v (dV l).length ((dV l).map ub)) (h8:l.length<=8) (P:∀e∈l,okE e=true) (N:∀e∈l,vX e):
  WF (lim E) 173 [v] h fun r h'=>Keep NoB h h'/\aN h' r l (fun k=>h.n<=k):=by
 have hbl:=zL l
 have hgl:=vZ (l:=l) l.length (Nat.le_refl _)
 rw [List.take_length] at hgl
 have hbd:=EP (K:=4350) (l:=l) (fun e he=>by have:=kQ (P e he);omega) l.length (Nat.le_refl _)
 rw [List.take_length] at hbd
 have hne:v≠ .bV:=hr.nse (by omega)
 refine X6 hE T.read rfl (m:=_) (d:=_) (x:=_) (a:=_) (c:=_) rfl (t1:=[v, .ptr h.n 0, .bot, .bot]) (h1:=h.push (.rw [.ae])) (v:= .func 184 [.ptr h.n 0]) (cs:=[.ptr h.n 0]) ?_ rfl rfl rfl ?_
 ·simp only [jK,mvE,mvS,clE,efE,ceS,ceE,csE,faE,nlE,ldE,lnE,exE,eV,sL,kI,List.map,getS]
  repeat first|refine ZE ?_|refine BP ?_|refine BQ ?_
  exact BR rfl
 show WB (lim E) _ [v, .ptr h.n 0, .bot, .bot] _ _
 have RF:=hr.one
 have hlt:=hr.lt
 have b1:Bx (h.push (.rw [.ae])) h.n [AV.ae]:=aH
 have k1:Keep NoB h (h.push (.rw [.ae])):=Keep.push _ _ _
 have hr1:=hr.up k1
 have abd:(dV l)[(dV l).length - 1]?=some (UInt8.ofNat (dX l).length):=by
  have e:(dV l).length - 1=(dQ l++(dX l).flatMap (fun a=>encB a 2)).length:=by unfold dV;simp
  rw [e]
  unfold dV
  rw [List.getElem?_append_right (Nat.le_refl _),Nat.sub_self]
  rfl
 obtain ⟨ga,oa,pa,la⟩:=hr1.at2 (i:=(dV l).length - 1) (by omega)
 have la:∀{e:En} {t:List AV} {x:Od},x.ev e t= .ptr ga oa->(Mv.ld1 x).ev e t (h.push (.rw [.ae]))=some (.int .u8 ((dX l).length:Int)):=fun {_ _ _} hx=>by
  rw [la (Keep.refl NoB _) (fun _ _ q=>q) hx,List.getElem?_map,abd]
  show some (ub (UInt8.ofNat (dX l).length))=_
  unfold ub
  rw [LV (by omega)]
 have hsub:(((dV l).length:Int) - 1)=(((dV l).length - 1:Nat):Int):=by omega
 have pa':∀{hh:Hp MD} {e:En} {t:List AV} {x y:Od} {k:IntKind},x.ev e t=v->y.ev e t= .int k (((dV l).length:Int) - 1)->(Mv.aP 1 x y).ev e t hh=some (.ptr ga oa):=fun hx hy=>pa hx (by rw [hy,hsub])
 have hn0:¬(((dV l).length:Int)=0):=by omega
 have hall:allOne [v, .int .i64 0]=true:=by
  have:=RF.2
  unfold allOne
  cases v<;>first|(cases this;done)|rfl
 have bR:Bx ((h.push (.rw [.ae])).push (.rw [v, .int .i64 0])) (h.n+1) _:=aH
 have kR:Keep NoB (h.push (.rw [.ae])) ((h.push (.rw [.ae])).push (.rw [v, .int .i64 0])):=Keep.push _ _ _
 have hend:(((dV l).length:Int) - 1 - 2*((dX l).length:Int))=((dQ l).length:Int):=by omega
 have R1:BRd ((h.push (.rw [.ae])).push (.rw [v, .int .i64 0])) (h.n+1) v (dQ l++((dX l).flatMap (fun a=>encB a 2)++[UInt8.ofNat (dX l).length])) 0:=by
  refine ⟨bR, ?_,hne,fun k q=>by have:=hlt k q;omega⟩
  have:=hr1.up kR
  unfold dV at this
  rwa [List.append_assoc] at this
 have hb2:(dQ l++((dX l).flatMap (fun a=>encB a 2)++[UInt8.ofNat (dX l).length])).length<=1099511627776:=by
  have:(dQ l++((dX l).flatMap (fun a=>encB a 2)++[UInt8.ofNat (dX l).length]))=dV l:=by unfold dV;rw [List.append_assoc]
  rw [this];omega
 repeat first|refine ZE ?_|refine BV (hr1.ah (by rfl)) ?_|refine BV (pa' rfl rfl) ?_|refine BV (la rfl) ?_|refine BV (cZ rfl (by omega)) ?_|refine BV (WT RF.1) ?_|refine BW (iD rfl hall) ?_|refine BP ?_|refine BQ ?_
 rw [hend]
 refine ag rfl ((Ie hE T.toKrT R1 hb2 P N (by omega)).mono fun r g2 ⟨k2,oe⟩=> ?_)
 have b12:=(b1.up kR).keep k2 (fun q=>by have q:h.n=h.n+1:=q;omega)
 have n2:=k2.n
 simp only [bJ] at n2
 repeat first|refine ZE ?_|refine BW (fQ b12 rfl rfl oe.one (Nat.zero_lt_succ _)) ?_|refine BP ?_|refine BQ ?_
 refine Rt ?_
 show WB (lim E) (.cond (.slot 1) (.reg [.mk none .none (.eff (.store 1 (.slot 0) (.const .ae)))]) .skip) [.ptr h.n 0, .bool false] _ _
 repeat first|refine ZE ?_|refine BP ?_|refine BQ ?_
 have kq:Keep (az h.n) g2 (g2.put h.n (.rw [r])):=Keep.put _ _ _ rfl
 have K:Keep NoB h (g2.put h.n (.rw [r])):=((k1.and kR).own k2 (fun k q=>by have q:k=h.n+1:=q;omega)).own kq (fun k q=>by have q:k=h.n:=q;omega)
 refine EF (l:=[r]) (xq (l:=[]) b12.put rfl) ⟨K, ?_⟩
 have ef:=oe.oM
 have lo2:∀k,((fun k=>((h.push (.rw [.ae])).push (.rw [v, .int .i64 0])).n<=k) k\/((h.push (.rw [.ae])).push (.rw [v, .int .i64 0])).n<=k)->h.n+2<=k:=fun k q=>by simp only [bJ] at q;omega
 exact ((ef.on lo2).keep kq (fun k q1 q2=>by have q2:k=h.n:=q2;omega)).on (fun k q=>by omega)
theorem WU (hE:∀f e,E f=some e->e.plain) (T:KaT E) {h:Hp MD} {v:AV} {l:List EM} (hr:RS h 1 v (dV l).length ((dV l).map ub)) (h1:1<=l.length) (h8:l.length<=8) (P:SG l) (N:∀e∈l,vX e):
  WF (lim E) 156 [v] h fun r h'=>Keep NoB h h'/\∃w,r= .tup [w, .int .i64 0]/\aN h' w l (fun k=>h.n<=k):=by
 refine aC hE T.ace rfl ?_
 simp only [rJ,mvE,mvS,clE,efE,ceS,ceE,csE,faE,nlE,ldE,lnE,exE,eV,sL,kI,List.map,getS]
 repeat first|refine ZE ?_|refine BP ?_|refine BQ ?_
 refine ag rfl ((SL hE T hr h8 P.ok N).mono fun w h2 ⟨k2,en⟩=> ?_)
 have hr2:=hr.up k2
 repeat first|refine ZE ?_|refine BP ?_|refine BQ ?_
 refine ag rfl ((Df hE T.toKdT en h1 h8 P N).mono fun r h3 ⟨k3,o,e3,o3,_⟩=> ?_)
 subst e3
 have hr3:=hr2.up k3
 repeat first|refine ZE ?_|refine BV (fP rfl o3.rs) ?_|refine BV (fP rfl hr3) ?_|refine BV (sZ rfl rfl rfl) ?_|refine BP ?_|refine BQ ?_
 exact ⟨k2.and k3,w,rfl,en.up k3⟩
end
set_option maxRecDepth 1000000
theorem Oz:bfOf Tryz.prog (drOf Tryz.prog) 147 iq.keep=some iq:=by kernel_rfl
theorem WV:bfOf Tryz.prog (drOf Tryz.prog) 112 dD.keep=some dD:=by kernel_rfl
theorem SN:bfOf Tryz.prog (drOf Tryz.prog) 110 jo.keep=some jo:=by kernel_rfl
theorem SQ:bfOf Tryz.prog (drOf Tryz.prog) 72 ku.keep=some ku:=by kernel_rfl
theorem SS:bfOf Tryz.prog (drOf Tryz.prog) 78 kC.keep=some kC:=by kernel_rfl
theorem JJ:bfOf Tryz.prog (drOf Tryz.prog) 109 gY.keep=some gY:=by kernel_rfl
theorem SV:bfOf Tryz.prog (drOf Tryz.prog) 67 kD.keep=some kD:=by kernel_rfl
theorem JK:bfOf Tryz.prog (drOf Tryz.prog) 90 gZ.keep=some gZ:=by kernel_rfl
theorem SX:bfOf Tryz.prog (drOf Tryz.prog) 79 kE.keep=some kE:=by kernel_rfl
theorem Ig:bfOf Tryz.prog (drOf Tryz.prog) 151 fH.keep=some fH:=by kernel_rfl
theorem ZG:bfOf Tryz.prog (drOf Tryz.prog) 150 rM.keep=some rM:=by kernel_rfl
theorem JL:bfOf Tryz.prog (drOf Tryz.prog) 113 ig.keep=some ig:=by kernel_rfl
theorem SY:bfOf Tryz.prog (drOf Tryz.prog) 68 kF.keep=some kF:=by kernel_rfl
theorem JM:bfOf Tryz.prog (drOf Tryz.prog) 91 ik.keep=some ik:=by kernel_rfl
theorem S9:bfOf Tryz.prog (drOf Tryz.prog) 86 kG.keep=some kG:=by kernel_rfl
theorem Tc:bfOf Tryz.prog (drOf Tryz.prog) 114 lZ.keep=some lZ:=by kernel_rfl
theorem WW:bfOf Tryz.prog (drOf Tryz.prog) 131 qp.keep=some qp:=by kernel_rfl
theorem Td:bfOf Tryz.prog (drOf Tryz.prog) 132 kH.keep=some kH:=by kernel_rfl
theorem Tf:bfOf Tryz.prog (drOf Tryz.prog) 133 kJ.keep=some kJ:=by kernel_rfl
theorem OA:bfOf Tryz.prog (drOf Tryz.prog) 134 jc.keep=some jc:=by kernel_rfl
theorem Ti:bfOf Tryz.prog (drOf Tryz.prog) 88 kK.keep=some kK:=by kernel_rfl
theorem Tj:bfOf Tryz.prog (drOf Tryz.prog) 87 kL.keep=some kL:=by kernel_rfl
theorem Ih:bfOf Tryz.prog (drOf Tryz.prog) 187 eP.keep=some eP:=by kernel_rfl
theorem Tm:bfOf Tryz.prog (drOf Tryz.prog) 66 fA.keep=some fA:=by kernel_rfl
theorem Tn:bfOf Tryz.prog (drOf Tryz.prog) 178 jY.keep=some jY:=by kernel_rfl
theorem OC:bfOf Tryz.prog (drOf Tryz.prog) 159 jb.keep=some jb:=by kernel_rfl
theorem JO:bfOf Tryz.prog (drOf Tryz.prog) 161 gX.keep=some gX:=by kernel_rfl
noncomputable def LK1:List (Nat×Ent MD):=[(147, .bc iq),(112, .bc dD),(110, .bc jo),(72, .bc ku),(78, .bc kC),(109, .bc gY),(67, .bc kD),(90, .bc gZ),(79, .bc kE),(151, .bc fH),(150, .bc rM),(113, .bc ig),(68, .bc kF),(91, .bc ik),(86, .bc kG),(114, .bc lZ),(131, .bc qp),(132, .bc kH),(133, .bc kJ),(134, .bc jc),(88, .bc kK),(87, .bc kL),(187, .bc eP),(66, .bc fA),(178, .bc jY),(159, .bc jb),(161, .bc gX),(170, .nat (n_bcmp))]
noncomputable def EK1:Nat->Option (Ent MD):=look LK1
theorem Dh:∀f e,EK1 f=some e->e.plain:=zn (l:=LK1) (by
 unfold LK1
 refine List.forall_mem_cons.2 ⟨True.intro, ?_⟩
 refine List.forall_mem_cons.2 ⟨True.intro, ?_⟩
 refine List.forall_mem_cons.2 ⟨True.intro, ?_⟩
 refine List.forall_mem_cons.2 ⟨True.intro, ?_⟩
 refine List.forall_mem_cons.2 ⟨True.intro, ?_⟩
 refine List.forall_mem_cons.2 ⟨True.intro, ?_⟩
 refine List.forall_mem_cons.2 ⟨True.intro, ?_⟩
 refine List.forall_mem_cons.2 ⟨True.intro, ?_⟩
 refine List.forall_mem_cons.2 ⟨True.intro, ?_⟩
 refine List.forall_mem_cons.2 ⟨True.intro, ?_⟩
 refine List.forall_mem_cons.2 ⟨True.intro, ?_⟩
 refine List.forall_mem_cons.2 ⟨True.intro, ?_⟩
 refine List.forall_mem_cons.2 ⟨True.intro, ?_⟩
 refine List.forall_mem_cons.2 ⟨True.intro, ?_⟩
 refine List.forall_mem_cons.2 ⟨True.intro, ?_⟩
 refine List.forall_mem_cons.2 ⟨True.intro, ?_⟩
 refine List.forall_mem_cons.2 ⟨True.intro, ?_⟩
 refine List.forall_mem_cons.2 ⟨True.intro, ?_⟩
 refine List.forall_mem_cons.2 ⟨True.intro, ?_⟩
 refine List.forall_mem_cons.2 ⟨True.intro, ?_⟩
 refine List.forall_mem_cons.2 ⟨True.intro, ?_⟩
 refine List.forall_mem_cons.2 ⟨True.intro, ?_⟩
 refine List.forall_mem_cons.2 ⟨True.intro, ?_⟩
 refine List.forall_mem_cons.2 ⟨True.intro, ?_⟩
 refine List.forall_mem_cons.2 ⟨True.intro, ?_⟩
 refine List.forall_mem_cons.2 ⟨True.intro, ?_⟩
 refine List.forall_mem_cons.2 ⟨True.intro, ?_⟩
 refine List.forall_mem_cons.2 ⟨fun _ _=>rfl, ?_⟩
 intro p hp
 cases hp)
theorem ZH:∀f e,EK1 f=some e->∀N,jD Tryz.prog OD f (vK N e):=look_ok (P:=Tryz.prog) (O:=OD) (l:=LK1) (by
 unfold LK1
 refine List.forall_mem_cons.2 ⟨fun N=>ai N Oz, ?_⟩
 refine List.forall_mem_cons.2 ⟨fun N=>ai N WV, ?_⟩
 refine List.forall_mem_cons.2 ⟨fun N=>ai N SN, ?_⟩
 refine List.forall_mem_cons.2 ⟨fun N=>ai N SQ, ?_⟩
 refine List.forall_mem_cons.2 ⟨fun N=>ai N SS, ?_⟩
 refine List.forall_mem_cons.2 ⟨fun N=>ai N JJ, ?_⟩
 refine List.forall_mem_cons.2 ⟨fun N=>ai N SV, ?_⟩
 refine List.forall_mem_cons.2 ⟨fun N=>ai N JK, ?_⟩
 refine List.forall_mem_cons.2 ⟨fun N=>ai N SX, ?_⟩
 refine List.forall_mem_cons.2 ⟨fun N=>ai N Ig, ?_⟩
 refine List.forall_mem_cons.2 ⟨fun N=>ai N ZG, ?_⟩
 refine List.forall_mem_cons.2 ⟨fun N=>ai N JL, ?_⟩
 refine List.forall_mem_cons.2 ⟨fun N=>ai N SY, ?_⟩
 refine List.forall_mem_cons.2 ⟨fun N=>ai N JM, ?_⟩
 refine List.forall_mem_cons.2 ⟨fun N=>ai N S9, ?_⟩
 refine List.forall_mem_cons.2 ⟨fun N=>ai N Tc, ?_⟩
 refine List.forall_mem_cons.2 ⟨fun N=>ai N WW, ?_⟩
 refine List.forall_mem_cons.2 ⟨fun N=>ai N Td, ?_⟩
 refine List.forall_mem_cons.2 ⟨fun N=>ai N Tf, ?_⟩
 refine List.forall_mem_cons.2 ⟨fun N=>ai N OA, ?_⟩
 refine List.forall_mem_cons.2 ⟨fun N=>ai N Ti, ?_⟩
 refine List.forall_mem_cons.2 ⟨fun N=>ai N Tj, ?_⟩
 refine List.forall_mem_cons.2 ⟨fun N=>ai N Ih, ?_⟩
 refine List.forall_mem_cons.2 ⟨fun N=>ai N Tm, ?_⟩
 refine List.forall_mem_cons.2 ⟨fun N=>ai N Tn, ?_⟩
 refine List.forall_mem_cons.2 ⟨fun N=>ai N OC, ?_⟩
 refine List.forall_mem_cons.2 ⟨fun N=>ai N JO, ?_⟩
 refine List.forall_mem_cons.2 ⟨fun _=>RY, ?_⟩
 intro p hp
 cases hp)
theorem Tq:DS Tryz.prog OD (lim EK1):=Jq ZH
theorem Yc:KdT EK1:=⟨⟨⟨⟨⟨rfl,rfl,rfl,rfl,rfl,rfl,rfl,rfl,rfl,rfl⟩,rfl,rfl,rfl,rfl,rfl,rfl,rfl⟩,rfl,rfl,rfl,rfl,rfl,rfl⟩,rfl,rfl,rfl,rfl⟩,rfl⟩
end Am
end Go.Proofs.YtbnkdnlfdofepaaGreat
