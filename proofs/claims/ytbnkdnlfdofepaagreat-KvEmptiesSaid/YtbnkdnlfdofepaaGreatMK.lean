/- Entries as they lie in memory; package frame: value, Batch. Regions that draw and lay rows, append; chapter 4's own Batch; its reader's Some. Package frame: one entry that is read. Functions that defer a call which recovers, walked; package frame: read, Entries. Package frame: read. Package frame: Entries. Lists of entries, of batches, that more is put behind. -/
import Derived.Test.YtbnkdnlfdofepaaGreatMJ
import Derived.Test.YtbnkdnlfdofepaaGreatMN
set_option linter.unusedVariables false
set_option linter.unusedSimpArgs false
namespace Go.Proofs.YtbnkdnlfdofepaaGreat
namespace Am
open Go.RowKit
set_option maxRecDepth 100000
def lH:BF:=⟨7,[0,1,2,4],(.seq (.reg [.mk none (.slot 1) (.eff (.box (sL 0))),mvS 2 (.mv (.const .ae))]) (.seq (.seq (.reg [mvE 3 (.aG 2 (sL 1)),mvS 3 (.ld1 (eV 3))]) (.cond (sL 3) (.seq (.reg [mvS 2 (.mv (.const .ae))]) .ret) .skip)) (.seq (.reg [mvE 5 (.aG 1 (sL 1)),ldE 6 5,csE 2 6]) .ret))),[.slot (sL 2)]⟩
def oL:BF:=⟨65,[0,2,3,4,6,7,8,11,16,17,18,19,38,40,55],(.seq (.reg [mvS 1 (.mv (.const .ae)),mvS 2 (.mv (.const (.int .i64 0)))]) (.seq (.seq (.reg [ceS 9 0,lnE 10 9,mvS 7 (.bin .gtr .no (eV 10) (.const (.int .i64 8191)))]) (.cond (sL 7) (.seq (.reg [mvS 1 (.mv (.const .ae)),mvS 2 (.mv (.const (.int .i64 3)))]) .ret) .skip)) (.seq (.reg [ceS 12 0,lnE 13 12,mvE 14 (.conv .u64 (eV 13)),clE 15 66 [(.const .ae),eV 14,(.const (.int .i64 2))],csE 3 15]) (.seq (.seq (.reg [mvS 8 (.mv (sL 0)),mvS 9 (.ah (sL 8)),mvS 10 (.mv (.const (.int .i64 0)))]) (.block 0 (.loop (.seq (.reg [mvS 11 (.bin .lss .no (sL 10) (sL 9))]) (.seq (.cond (sL 11) .skip (.exit 0)) (.seq (.block 1 (.seq (.reg [mvE 20 (.aP 3 (sL 8) (sL 10)),mvE 21 (.ldn 3 (eV 20)), .mk none (.slot 4) (.eff (.alloc [.ae, .ae,(.bool false)])), .mk none .none (.eff (.store 3 (sL 4) (eV 21)))]) (.seq (.reg [mvE 22 (.ldn 3 (sL 4)),clE 23 146 [eV 22],csE 5 23]) (.seq (.seq (.reg [mvE 24 (.aG 0 (sL 4)),ldE 25 24,lnE 26 25,mvE 27 (.bin .lss .no (eV 26) (.const (.int .i64 1))),ceE 28 27, .mk (some ((eV 28),false)) (.env 29) (.mov (.aG 0 (sL 4))), .mk (some ((eV 28),false)) (.env 30) (.mov (.ld1 (eV 29))), .mk (some ((eV 28),false)) (.env 31) (.mov (.ah (eV 30))), .mk (some ((eV 28),false)) (.env 32) (.mov (.bin .gtr .no (eV 31) (.const (.int .i64 255)))),mvE 33 (.pick (eV 28) (.const (.bool true)) (eV 32)),ceE 34 33, .mk (some ((eV 34),false)) (.env 35) (.mov (.mv (sL 5))), .mk (some ((eV 34),false)) (.env 36) (.mov (.ah (eV 35))), .mk (some ((eV 34),false)) (.env 37) (.mov (.bin .gtr .no (eV 36) (.const (.int .i64 4095)))),mvS 12 (.pick (eV 34) (.const (.bool true)) (eV 37))]) (.cond (sL 12) (.seq (.reg [mvS 1 (.mv (.const .ae)),mvS 2 (.mv (.const (.int .i64 3)))]) .ret) .skip)) (.seq (.reg [mvS 6 (.mv (.const (.int .u8 1)))]) (.seq (.seq (.reg [mvE 39 (.aG 2 (sL 4)),mvS 13 (.ld1 (eV 39))]) (.cond (sL 13) (.reg [mvS 6 (.mv (.const (.int .u8 0)))]) .skip)) (.seq (.reg [ceS 41 3,ceS 42 6,mvE 43 (.aG 0 (sL 4)),ldE 44 43,lnE 45 44,mvE 46 (.conv .u8 (eV 45)),efE 47 (.aF 1 2 [(.int .u8 0)] [(0,1,(eV 42)),(1,1,(eV 46))]),efE 48 (.append 1 1 (eV 41) (eV 47)),csE 3 48]) (.seq (.reg [ceS 49 3,mvE 50 (.aG 0 (sL 4)),ldE 51 50,efE 52 (.append 1 1 (eV 49) (eV 51)),csE 3 52]) (.seq (.reg [mvE 53 (.aG 2 (sL 4)),ldE 54 53,mvS 14 (.jd (eV 54))]) (.cond (sL 14) (.reg [ceS 56 3,ceS 57 5,lnE 58 57,mvE 59 (.conv .u64 (eV 58)),clE 60 66 [eV 56,eV 59,(.const (.int .i64 2))],ceS 61 5,efE 62 (.append 1 1 (eV 60) (eV 61)),csE 3 62]) .skip)))))))))) (.reg [mvE 63 (.bin .add .no (sL 10) (.const (.int .i64 1))),csE 10 63]))))))) (.seq (.reg [ceS 64 3,csE 1 64,mvS 2 (.mv (.const (.int .i64 0)))]) .ret))))),[.slot (sL 1), .slot (sL 2)]⟩
structure EM where
 key:List UInt8
 val:List UInt8
 gone:Bool
abbrev T3:=AV×AV×Bool
def f3 (q:T3):List AV:=[q.1,q.2.1, .bool q.2.2]
theorem xn (tri:List T3):(tri.flatMap f3).length=tri.length*3:=by
 induction tri with
 |nil=>rfl
 |cons q l ih=>rw [List.flatMap_cons,List.length_append,ih,List.length_cons,Nat.succ_mul,Nat.add_comm];rfl
theorem X5:∀{tri:List T3} {i:Nat} {q:T3} {j:Nat},tri[i]?=some q->j < 3->(tri.flatMap f3)[i*3+j]?=(f3 q)[j]?
 |[],i,q,j,h,_=>by simp at h
 |p::l,0,q,j,h,hj=>by
  simp at h;subst h
  rw [List.flatMap_cons,List.getElem?_append_left (by simp [f3];omega)]
  simp
 |p::l,i+1,q,j,h,hj=>by
  simp at h
  rw [List.flatMap_cons,List.getElem?_append_right (by simp [f3];omega)]
  have e:(i+1)*3+j - (f3 p).length=i*3+j:=by simp [f3];omega
  rw [e]
  exact X5 h hj
theorem Rk:∀{tri:List T3} {i:Nat} {q:T3},tri[i]?=some q->((tri.flatMap f3).drop (i*3)).take 3=f3 q
 |[],i,q,h=>by simp at h
 |p::l,0,q,h=>by
  simp at h;subst h
  rw [List.flatMap_cons,Nat.zero_mul,List.drop_zero]
  exact List.take_left (l₁:=f3 p)
 |p::l,i+1,q,h=>by
  simp at h
  rw [List.flatMap_cons]
  have e:(i+1)*3=(f3 p).length+i*3:=by simp [f3];omega
  rw [e,<-List.drop_drop,List.drop_left]
  exact Rk h
section
variable {X:Type} {h:Hp X}
theorem RS.at3 {n:Nat} {v:AV} {tri:List T3} (a:RS h 3 v n (tri.flatMap f3)) {i:Nat} {q:T3} (hi:tri[i]?=some q):∃g o,(∀{hh:Hp X} {e:En} {t:List AV} {x y:Od} {k:IntKind},x.ev e t=v->y.ev e t= .int k (i:Int)->(Mv.aP 3 x y).ev e t hh=some (.ptr g o))/\
  (∀{S:Nat->Prop} {hh:Hp X},Keep S h hh->(∀k,blk v k->¬S k)->∀{e:En} {t:List AV} {x:Od} {j:Nat},x.ev e t= .ptr g (o+j)->j < 3->(Mv.ld1 x).ev e t hh=(f3 q)[j]?)/\
  (∀{S:Nat->Prop} {hh:Hp X},Keep S h hh->(∀k,blk v k->¬S k)->∀{e:En} {t:List AV} {x:Od},x.ev e t= .ptr g o->(Mv.ldn 3 x).ev e t hh=some (.agg (f3 q))):=by
 have hlen:=a.len
 rw [xn] at hlen
 have hil:=(List.getElem?_eq_some_iff.1 hi).1
 have hin:i < n:=by omega
 cases v<;>first|exact a.elim|skip
 ·rename_i z g o m cap
  obtain ⟨rfl,rfl,hg,l,hl,hle,hc⟩:=a
  refine ⟨g,o+i*3,fun {hh e t x y k} hx hy=> ?_,fun {S hh} hk hs {e t x j} hx hj=> ?_,fun {S hh} hk hs {e t x} hx=> ?_⟩
  ·simp only [Mv.ev,hx,hy,nOf]
   rw [show Nat.blt i m=true by rw [Nat.blt_eq];exact hin]
   rfl
  ·simp only [Mv.ev,hx,AV.onPtr]
   rw [lu (hk.get g hg (hs g rfl)),hl]
   simp only
   have:=X5 hi hj
   rw [hc,List.getElem?_take_of_lt (by omega),List.getElem?_drop] at this
   rw [yC,<-this,Nat.add_assoc]
  ·simp only [Mv.ev,hx,AV.onPtr]
   rw [lu (hk.get g hg (hs g rfl)),hl]
   have:=Rk hi
   rw [hc,List.drop_take,List.take_take,List.drop_drop,Nat.min_eq_left (by omega)] at this
   unfold takeN
   have hb:(o+i*3+3).ble l.length=true:=dK (by omega)
   simp only [hb,cond_true,this]
 ·obtain ⟨rfl,_⟩:=a;omega
 ·obtain ⟨rfl,_⟩:=a;omega
structure eH (h:Hp X) (q:T3) (e:EM):Prop where
 gone:q.2.2=e.gone
 key:RS h 1 q.1 e.key.length (e.key.map ub)
 val:RS h 1 q.2.1 e.val.length (e.val.map ub)
 nse:q.2.1≠ .bV
theorem eH.up {h':Hp X} {q:T3} {e:EM} (a:eH h q e) (k:Keep NoB h h'):eH h' q e:=⟨a.gone,a.key.up k,a.val.up k,a.nse⟩
structure Zp (h:Hp X) (v:AV) (l:List EM):Prop where
 out:∃tri:List T3,RS h 3 v l.length (tri.flatMap f3)/\tri.length=l.length/\∀(i:Nat) q e,tri[i]?=some q->l[i]?=some e->eH h q e
end
def jV (e:EM):List UInt8:=(if e.gone then 0 else 1)::UInt8.ofNat e.key.length::(e.key++(if e.gone then [] else encB e.val.length 2++e.val))
def dF (l:List EM):List UInt8:=encB l.length 2++l.flatMap jV
def EM.v (e:EM):List UInt8:=if e.gone then [] else e.val
def okE (e:EM):Bool:=decide (1<=e.key.length) && decide (e.key.length<=255) && decide (e.v.length<=4095)
def mM (l:List EM):Bool:=decide (l.length<=8191) && l.all okE
theorem Hm (e:EM):(jV e).length<=4+e.key.length+e.v.length:=by
 unfold jV EM.v
 cases e.gone<;>simp [aB]<;>omega
section
variable {X:Type} {E:Nat->Option (Ent X)}
theorem Rl (hE:∀f e,E f=some e->e.plain) (hf:E 146=some (.bc lH)) {h:Hp X} {q:T3} {e:EM} (ha:eH h q e):
  WF (lim E) 146 [.agg (f3 q)] h fun r h'=>Keep NoB h h'/\RS h' 1 r e.v.length (e.v.map ub)/\∀k,blk r k->blk q.2.1 k:=by
 obtain ⟨kv,vv,gb⟩:=q
 obtain ⟨hg,hk,hv,_⟩:=ha
 simp only at hg hk hv
 subst hg
 refine aC hE hf rfl ?_
 simp only [lH,mvE,mvS,clE,efE,ceS,ceE,csE,faE,nlE,ldE,lnE,exE,eV,sL,kI,List.map,getS]
 have b1:Bx (h.push (.rw [kv,vv, .bool e.gone])) h.n _:=aH
 have k1:Keep NoB h (h.push (.rw [kv,vv, .bool e.gone])):=Keep.push _ _ _
 have hall:allOne [kv,vv, .bool e.gone]=true:=aX hk.one.2 hv.one.2 rfl
 unfold EM.v
 cases hg:e.gone with
 |true=>
  rw [hg] at b1 k1 hall
  repeat first|refine ZA ?_|refine BV (au b1 rfl rfl) ?_|refine BW (iD rfl hall) ?_|refine BP ?_|refine BQ ?_
  exact ⟨k1,⟨rfl,rfl⟩,fun k q=>q.elim⟩
 |false=>
  rw [hg] at b1 k1 hall
  repeat first|refine ZA ?_|refine BV (au b1 rfl rfl) ?_|refine BW (iD rfl hall) ?_|refine BP ?_|refine BQ ?_
  exact ⟨k1,hv.up k1,fun k q=>q⟩
theorem LV {n:Nat} (h:n<=255):(UInt8.ofNat n).toNat=n:=by rw [UInt8.toNat_ofNat'];omega
theorem JA {l:List EM} {i:Nat} {e:EM} (hi:l[i]?=some e):(l.take (i+1)).flatMap jV=(l.take i).flatMap jV++jV e:=by
 rw [List.take_add_one,hi,List.flatMap_append]
 simp
theorem Rn {l:List EM} {i:Nat} (hi:i < l.length) {e:EM} (he:l[i]?=some e) (h:okE e=false):mM l=false:=by
 unfold mM
 cases hd:decide (l.length<=8191) with
 |false=>rfl
 |true=>
  rw [Bool.true_and]
  cases ha:l.all okE with
  |false=>rfl
  |true=>rw [List.all_eq_true.1 ha e (List.mem_of_getElem? he)] at h;cases h
structure WaB (E:Nat->Option (Ent X)):Prop where
 value:E 146=some (.bc lH)
 batch:E 105=some (.bc oL)
 put:E 66=some (.bc fA)
 clone:E 112=some (.bc dD)
def LW (h:Hp X) (l:List EM) (r:AV) (h':Hp X):Prop:=Keep NoB h h'/\if mM l then∃o,r= .tup [o, .int .i64 0]/\OS h' 1 o (dF l).length ((dF l).map ub)/\∀k,blk o k->h.n<=k else r= .tup [.ae, .int .i64 3]
set_option maxHeartbeats 8000000 in
theorem Ho (hE:∀f e,E f=some e->e.plain) (T:WaB E) {h:Hp X} {v:AV} {l:List EM} (ha:Zp h v l) (hl:l.length<=1000000):
  WF (lim E) 105 [v] h fun r h'=>LW h l r h':=by
 obtain ⟨tri,hr,htl,hq⟩:=ha.out
 refine aC hE T.batch rfl ?_
 simp only [oL,mvE,mvS,clE,efE,ceS,ceE,csE,faE,nlE,ldE,lnE,exE,eV,sL,kI,List.map,getS]
 have hmx:(maxLen:Nat)=9223372036854775807:=rfl
 by_cases hc:(8191:Int) < l.length
 ·repeat first|refine ZA ?_|refine BV (hr.ah (by rfl)) ?_|refine BP ?_|refine BQ ?_
  refine ⟨Keep.refl _ _, ?_⟩
  rw [if_neg (by unfold mM;rw [decide_eq_false (by omega)];simp)]
  rfl
 ·repeat first|refine ZA ?_|refine BV (hr.ah (by rfl)) ?_|refine BV (cO rfl (by omega)) ?_|refine BP ?_|refine BQ ?_
  refine ag rfl ((qh hE T.put T.clone (h:=h) (v:= .ae) (n:=0) (cells:=[]) ⟨rfl,rfl⟩ (by intro q;cases q) (by omega) (m:=l.length) (size:=2) (k:=2) (by decide)).mono fun r h1 ⟨⟨k1,l1⟩,o1⟩=> ?_)
  rw [jU,List.nil_append,Nat.zero_add] at o1
  have hr1:=hr.up k1
  repeat first|refine ZA ?_|refine BV (hr1.ah (by rfl)) ?_|refine BP ?_|refine BQ ?_
  refine aQ (fun n t h'=>∃(i:Nat) (bv s4 s5 s6 s11 s12 s13 s14:AV),i<=l.length/\n=l.length - i/\Keep NoB h h'/\(∀k,blk bv k->h.n<=k)/\(∀e∈l.take i,okE e=true)/\
   OS h' 1 bv (encB l.length 2++(l.take i).flatMap jV).length ((encB l.length 2++(l.take i).flatMap jV).map ub)/\(encB l.length 2++(l.take i).flatMap jV).length<=2+5000*i/\
   t=[v, .ae, .int .i64 0,bv,s4,s5,s6, .bool false,v, .int .i64 l.length, .int .i64 i,s11,s12,s13,s14]) ?_ l.length _ _ ⟨0,r,_,_,_,_,_,_,_,by omega,by omega,k1,l1,by simp,by simpa [aB] using o1,by simp [aB],rfl⟩
  rintro n t h' ⟨i,bv,s4,s5,s6,s11,s12,s13,s14,hi,hn,K,lo,hok,ob,hbl,rfl⟩
  generalize hpre:encB l.length 2++(l.take i).flatMap jV=pre at*
  by_cases hlt:i < l.length
  ·obtain ⟨e,he⟩:∃e,l[i]?=some e:=⟨_,List.getElem?_eq_getElem hlt⟩
   obtain ⟨q,hqi⟩:∃q,tri[i]?=some q:=⟨_,List.getElem?_eq_getElem (by omega)⟩
   have hkl:=(hq i q e hqi he).key.lt
   have hvl:=(hq i q e hqi he).val.lt
   have hv:=(hq i q e hqi he).up K
   obtain ⟨ga,oa,pa,la,na⟩:=hr.at3 hqi
   have na:= @na NoB _ K (fun _ _ q=>q)
   have kp:Keep NoB h' (h'.push (.rw [.ae, .ae, .bool false])):=Keep.push _ _ _
   have bz:Bx (h'.push (.rw [.ae, .ae, .bool false])) h'.n _:=aH
   obtain ⟨kv,vv,gb⟩:=q
   have hgb:=hv.gone
   have hkv:=hv.key
   simp only at hgb hkv
   subst hgb
   have hall:allOne (f3 (kv,vv,e.gone))=true:=aX hv.key.one.2 hv.val.one.2 rfl
   have kq:Keep (az h'.n) (h'.push (.rw [.ae, .ae, .bool false])) ((h'.push (.rw [.ae, .ae, .bool false])).put h'.n (.rw [kv,vv, .bool e.gone])):=Keep.put _ _ _ rfl
   have b4:Bx ((h'.push (.rw [.ae, .ae, .bool false])).put h'.n (.rw [kv,vv, .bool e.gone])) h'.n [kv,vv, .bool e.gone]:=bz.put
   have hv2:eH ((h'.push (.rw [.ae, .ae, .bool false])).put h'.n (.rw [kv,vv, .bool e.gone])) (kv,vv,e.gone) e:=⟨rfl,(hv.key.up kp).keep kq (fun k q1 q2=>by have:=hv.key.lt k q1;have q2:k=h'.n:=q2;omega),(hv.val.up kp).keep kq (fun k q1 q2=>by have:=hv.val.lt k q1;have q2:k=h'.n:=q2;omega),hv.nse⟩
   have ob2:=(ob.up kp).keep kq (fun k q1 q2=>by have:=ob.lt k q1;have q2:k=h'.n:=q2;omega)
   have hKn:=K.n
   have K2:=(K.and kp).own kq (fun k q=>by have q:k=h'.n:=q;omega)
   repeat first|refine ZA ?_|refine BV (pa rfl rfl) ?_|refine BV (na rfl) ?_|refine BV (dh b4 rfl (Nat.le_refl _)) ?_|refine BW (aV bz rfl rfl hall rfl (Nat.le_refl _)) ?_|refine BP ?_|refine BQ ?_
   obtain ⟨h2,hh2⟩:∃h2:Hp X,h2=(h'.push (.rw [.ae, .ae, .bool false])).put h'.n (.rw [kv,vv, .bool e.gone]):=⟨_,rfl⟩
   refine aJ (h':=h2) (by rw [hh2];rfl) ?_
   rw [<-hh2] at b4 hv2 ob2 K2
   clear kp kq bz hh2
   refine ag rfl ((Rl hE T.value hv2).mono fun xv h3 ⟨k3,r3,bx3⟩=> ?_)
   have b4:=b4.up k3
   have hv3:=hv2.up k3
   have ob3:=ob2.up k3
   have K3:=K2.and k3
   have hk3:=hv3.key
   simp only at hk3
   have hee:okE e=(decide (1<=e.key.length) && decide (e.key.length<=255) && decide (e.v.length<=4095)):=rfl
   have bad:okE e=false->LW h l (.tup [.ae, .int .i64 3]) h3:=fun hx=>⟨K3,by rw [if_neg (by rw [Rn hlt he hx];decide)]⟩
   by_cases c1:(e.key.length:Int) < 1
   ·have hx:okE e=false:=by rw [hee,decide_eq_false (by omega)];simp
    repeat first|refine ZA ?_|refine BV (au b4 rfl rfl) ?_|refine BV (hk3.ah (by rfl)) ?_|refine BP ?_|refine BQ ?_
    exact bad hx
   by_cases c2:(255:Int) < e.key.length
   ·have hx:okE e=false:=by rw [hee,decide_eq_false (p:=e.key.length<=255) (by omega)];simp
    repeat first|refine ZA ?_|refine BV (au b4 rfl rfl) ?_|refine BV (hk3.ah (by rfl)) ?_|refine BP ?_|refine BQ ?_
    exact bad hx
   by_cases c3:(4095:Int) < e.v.length
   ·have hx:okE e=false:=by rw [hee,decide_eq_false (p:=e.v.length<=4095) (by omega)];simp
    repeat first|refine ZA ?_|refine BV (au b4 rfl rfl) ?_|refine BV (hk3.ah (by rfl)) ?_|refine BV (r3.ah (by rfl)) ?_|refine BP ?_|refine BQ ?_
    exact bad hx
   have hxo:okE e=true:=by rw [hee,decide_eq_true (by omega),decide_eq_true (by omega),decide_eq_true (by omega)];rfl
   have hok':∀x∈l.take (i+1),okE x=true:=fun x hx=>by
    rw [List.take_add_one,he] at hx
    rcases List.mem_append.1 hx with hx|hx
    ·exact hok x hx
    ·simp at hx;subst hx;exact hxo
   have hel:=Hm e
   have hft:=JA he
   have hpe:encB l.length 2++(l.take (i+1)).flatMap jV=pre++jV e:=by rw [hft,<-hpre,List.append_assoc]
   have hn1:n - 1 < n:=by omega
   cases hg:e.gone with
   |true=>
    rw [hg] at b4
    have hev:jV e=[0,UInt8.ofNat e.key.length]++e.key:=by unfold jV;rw [hg];simp
    repeat first|refine ZA ?_|refine BV (au b4 rfl rfl) ?_|refine BV (hk3.ah (by rfl)) ?_|refine BV (r3.ah (by rfl)) ?_|refine BV (lD rfl) ?_|refine BW (uH (a:=ub 0) rfl rfl ⟨rfl,rfl⟩ ⟨rfl,rfl⟩) ?_|refine BP ?_|refine BQ ?_
    refine aJ (h':=h3.push (.rw ([0,UInt8.ofNat e.key.length].map ub))) rfl ?_
    have kp:Keep NoB h3 (h3.push (.rw ([0,UInt8.ofNat e.key.length].map ub))):=Keep.push _ _ _
    refine aA rfl rfl (ob3.up kp) Nat.zero_lt_one (bH (n:=2) (z:=1) (l:=[0,UInt8.ofNat e.key.length].map ub) rfl) (by omega) (by omega) fun b5 h5 a1 a2 a3=> ?_
    have K5:=(K3.and kp).own a2 lo
    have k3n:=K3.n
    have lo5:∀k,blk b5 k->h.n<=k:=fun k q=>by
     rcases a3 k q with q|q
     ·exact lo k q
     ·simp only [bJ] at q;omega
    have b45:=(b4.up kp).keep a2 (fun q=>by have:=ob.lt _ q;omega)
    have hk5:=(hk3.up kp).keep a2 (fun k q1 q2=>by have:=hkl k q1;have:=lo k q2;omega)
    repeat first|refine ZA ?_|refine BV (au b45 rfl rfl) ?_|refine BP ?_|refine BQ ?_
    refine aA rfl rfl a1 Nat.zero_lt_one hk5 (by omega) (by omega) fun b6 h6 c1 c2 c3=> ?_
    have K6:=K5.own c2 lo5
    have k5n:=K5.n
    have lo6:∀k,blk b6 k->h.n<=k:=fun k q=>by
     rcases c3 k q with q|q
     ·exact lo5 k q
     ·omega
    have b46:=b45.keep c2 (fun q=>by
     rcases a3 _ q with q|q
     ·have:=ob.lt _ q;omega
     ·have:=b4.lt;simp only [bJ] at q;omega)
    rw [<-List.map_append,<-List.map_append] at c1
    repeat first|refine ZA ?_|refine BV (au b46 rfl rfl) ?_|refine BP ?_|refine BQ ?_
    rw [show ((i:Int)+1)=((i+1:Nat):Int) by omega]
    refine aj (n - 1) hn1 ⟨i+1,b6,_,_,_,_,_,_,_,by omega,by omega,K6,lo6,hok', ?_, ?_,rfl⟩
    ·rw [hpe,hev]
     have e2:(pre++([0,UInt8.ofNat e.key.length]++e.key)).length=pre.length+2+e.key.length:=by simp;omega
     rw [e2,<-List.append_assoc]
     exact c1
    ·rw [hpe,List.length_append];omega
   |false=>
    rw [hg] at b4
    have hev:jV e=[1,UInt8.ofNat e.key.length]++e.key++(encB e.v.length 2++e.v):=by unfold jV EM.v;rw [hg];simp
    repeat first|refine ZA ?_|refine BV (au b4 rfl rfl) ?_|refine BV (hk3.ah (by rfl)) ?_|refine BV (r3.ah (by rfl)) ?_|refine BV (lD rfl) ?_|refine BW (uH (a:=ub 1) rfl rfl ⟨rfl,rfl⟩ ⟨rfl,rfl⟩) ?_|refine BP ?_|refine BQ ?_
    refine aJ (h':=h3.push (.rw ([1,UInt8.ofNat e.key.length].map ub))) rfl ?_
    have kp:Keep NoB h3 (h3.push (.rw ([1,UInt8.ofNat e.key.length].map ub))):=Keep.push _ _ _
    refine aA rfl rfl (ob3.up kp) Nat.zero_lt_one (bH (n:=2) (z:=1) (l:=[1,UInt8.ofNat e.key.length].map ub) rfl) (by omega) (by omega) fun b5 h5 a1 a2 a3=> ?_
    have K5:=(K3.and kp).own a2 lo
    have k3n:=K3.n
    have lo5:∀k,blk b5 k->h.n<=k:=fun k q=>by
     rcases a3 k q with q|q
     ·exact lo k q
     ·simp only [bJ] at q;omega
    have b45:=(b4.up kp).keep a2 (fun q=>by have:=ob.lt _ q;omega)
    have hk5:=(hk3.up kp).keep a2 (fun k q1 q2=>by have:=hkl k q1;have:=lo k q2;omega)
    repeat first|refine ZA ?_|refine BV (au b45 rfl rfl) ?_|refine BP ?_|refine BQ ?_
    refine aA rfl rfl a1 Nat.zero_lt_one hk5 (by omega) (by omega) fun b6 h6 c1 c2 c3=> ?_
    have K6:=K5.own c2 lo5
    have k5n:=K5.n
    have lo6:∀k,blk b6 k->h.n<=k:=fun k q=>by
     rcases c3 k q with q|q
     ·exact lo5 k q
     ·omega
    have b46:=b45.keep c2 (fun q=>by
     rcases a3 _ q with q|q
     ·have:=ob.lt _ q;omega
     ·have:=b4.lt;simp only [bJ] at q;omega)
    rw [<-List.map_append,<-List.map_append] at c1
    have r6:RS h6 1 xv e.v.length (e.v.map ub):=((r3.up kp).keep a2 (fun k q1 q2=>by have:=hvl k (bx3 k q1);have:=lo k q2;omega)).keep c2 (fun k q1 q2=>by have:=hvl k (bx3 k q1);have:=lo5 k q2;omega)
    repeat first|refine ZA ?_|refine BV (au b46 rfl rfl) ?_|refine BV (r6.ah (by rfl)) ?_|refine BV (cO rfl (by omega)) ?_|refine BP ?_|refine BQ ?_
    refine ag rfl ((qh hE T.put T.clone c1.rs c1.vP (by omega) (m:=e.v.length) (size:=2) (k:=2) (by decide)).mono fun b7 h7 ⟨⟨k7,l7⟩,o7⟩=> ?_)
    repeat first|refine ZA ?_|refine BP ?_|refine BQ ?_
    refine aA rfl rfl o7 Nat.zero_lt_one (r6.up k7) (by omega) (by omega) fun b8 h8 d1 d2 d3=> ?_
    repeat first|refine ZA ?_|refine BP ?_|refine BQ ?_
    rw [show ((i:Int)+1)=((i+1:Nat):Int) by omega]
    have k6n:=K6.n
    have k7n:=k7.n
    refine aj (n - 1) hn1 ⟨i+1,b8,_,_,_,_,_,_,_,by omega,by omega,(K6.and k7).own d2 (fun k q=>by have:=l7 k q;omega),fun k q=> ?_,hok', ?_, ?_,rfl⟩
    ·rcases d3 k q with q|q
     ·have:=l7 k q;omega
     ·omega
    ·rw [hpe,hev]
     rw [jU,<-List.map_append,<-List.map_append] at d1
     have e2:(pre++([1,UInt8.ofNat e.key.length]++e.key++(encB e.v.length 2++e.v))).length=pre.length+2+e.key.length+2+e.v.length:=by simp [aB];omega
     rw [e2]
     have e3:pre++([1,UInt8.ofNat e.key.length]++e.key++(encB e.v.length 2++e.v))=pre++[1,UInt8.ofNat e.key.length]++e.key++encB e.v.length 2++e.v:=by simp [List.append_assoc]
     rw [e3]
     exact d1
    ·rw [hpe,List.length_append];omega
  ·have hie:i=l.length:=by omega
   subst hie
   repeat first|refine ZA ?_|refine BP ?_|refine BQ ?_
   refine ⟨K, ?_⟩
   rw [List.take_length] at hok hpre
   have hm:mM l=true:=by
    unfold mM
    rw [decide_eq_true (by omega),Bool.true_and]
    exact List.all_eq_true.2 hok
   rw [if_pos hm]
   refine ⟨bv,rfl, ?_,lo⟩
   unfold dF
   rw [hpre]
   exact ob
end
section
variable {X:Type} {D:Dp X} {l:Dr} {past:List (Pa X)} {e e':En} {t t':List AV} {h:Hp X} {Q:R X->Prop} {chk:List Nat}
theorem EE {d:Ds} {m:Ef} {v:AV} {cs:List AV} (hm:m.ev e t h=some (v,h.push (.rw cs))) (hc:Chk (h.push (.rw cs)) past chk) (H:WD D l (past++[.alc h.n cs]) e' t' (h.push (.rw cs)) Q) (hi:m.isAlc=true:=by rfl) (he:putE d v e=e':=by conv=>lhs;whnf) (ht:putT d v t=t':=by conv=>lhs;whnf):WD D ((.mk none d (.eff m),chk)::l) past e t h Q:=by
 subst he ht
 obtain ⟨t',h',h1,h2⟩:=H.out
 refine ⟨⟨t',h', ?_,h2⟩⟩
 have ha:=I7 hi (e:=e) (t:=t) (h:=h)
 rw [hm] at ha
 obtain ⟨p,hp,hq⟩:∃p,m.alc e t=some p/\p.2=cs:=by
  cases hx:m.alc e t with
  |none=>rw [hx] at ha;cases ha
  |some p=>
   rw [hx] at ha
   simp only [Option.map_some,Option.some.injEq,Prod.mk.injEq] at ha
   refine ⟨p,rfl, ?_⟩
   have:=congrArg (fun h:Hp X=>h.get h.n) ha.2
   have h3:=Hp.aK h (.rw cs)
   have h4:=Hp.aK h (.rw p.2)
   rw [ha.2] at h3
   rw [h4] at h3
   simpa using h3
 have hpa:paOf (.eff m) e t h v (h.push (.rw cs))=some (.alc h.n cs):=by
  show (bif m.isAlc then (match (h.push (.rw cs)).get h.n,m.alc e t with|some (.rw l),some (_,l')=>bif eqAs l l' then some (Pa.alc h.n l) else none|_,_=>none) else some .skip)=_
  rw [hi,Hp.aK,hp]
  obtain ⟨p1,p2⟩:=p
  simp only at hq
  subst hq
  simp [iZ]
 have ho:(Op1.eff m).run D e t h= .ret v (h.push (.rw cs)):=by simp only [Op1.run,hm]
 simp only [drGo,gdv,St1.g,St1.o,St1.d,ho,hpa,hc.out,cond_true]
 exact h1
theorem rD {d:Ds} {m:Ef} {v:AV} {h':Hp X} (hm:m.ev e t h=some (v,h')) (hc:Chk h' past chk) (H:WD D l (past++[.skip]) e' t' h' Q) (hi:m.isAlc=false:=by rfl) (he:putE d v e=e':=by conv=>lhs;whnf) (ht:putT d v t=t':=by conv=>lhs;whnf):WD D ((.mk none d (.eff m),chk)::l) past e t h Q:=by
 subst he ht
 obtain ⟨t',h'',h1,h2⟩:=H.out
 refine ⟨⟨t',h'', ?_,h2⟩⟩
 have hpa:paOf (.eff m) e t h v h'=some .skip:=by
  show (bif m.isAlc then (match h'.get h.n,m.alc e t with|some (.rw l),some (_,l')=>bif eqAs l l' then some (Pa.alc h.n l) else none|_,_=>none) else some Pa.skip)=some Pa.skip
  rw [hi]
  rfl
 have ho:(Op1.eff m).run D e t h= .ret v h':=by simp only [Op1.run,hm]
 simp only [drGo,gdv,St1.g,St1.o,St1.d,ho,hpa,hc.out,cond_true]
 exact h1
theorem Ro {k z by':Nat} {x y:Od} {v w:AV} {n m:Nat} {cells vs:List AV} (hx:x.ev e t=v) (hy:y.ev e t=w) (ho:OS h z v n cells) (hz:0 < z) (hw:RS h z w m vs) (h1:(n+m)*by'<=140737488355328) (h2:n+m<=maxLen)
  (H:∀v' h',OS h' z v' (n+m) (cells++vs)->Keep (blk v) h h'->(∀g,blk v' g->blk v g\/h.n<=g)->Chk h' past chk/\WD D l (past++[.skip]) ((k,v')::e) t h' Q):WD D ((.mk none (.env k) (.eff (.append z by' x y)),chk)::l) past e t h Q:=by
 obtain ⟨v',h',e1,e2,e3,e4⟩:=ho.app hz hw.len h1 h2
 obtain ⟨q1,q2⟩:=H v' h' e2 e3 e4
 exact rD (by simp only [Ef.ev,hy,hw.elems,hx,e1]) q1 q2 rfl rfl rfl
end
def lI:BF:=⟨22,[0,2,3,15],(.seq (.reg [.mk none (.slot 1) (.eff (.alloc [.ae, .ae,(.bool false)]))]) (.seq (.reg [ceS 4 0,clE 5 175 [eV 4,(.const (.int .i64 1))],mvE 6 (.bin .eql .no (eV 5) (.const (.int .i64 0))),mvE 7 (.bld [.ae, .ae,(.bool false)] [(2,1,(eV 6))]), .mk none (.slot 2) (.eff (.alloc [.ae, .ae,(.bool false)])), .mk none .none (.eff (.store 3 (sL 2) (eV 7)))]) (.seq (.reg [ceS 8 0,ceS 9 0,clE 10 175 [eV 9,(.const (.int .i64 1))],clE 11 186 [eV 8,eV 10],mvE 12 (.aG 0 (sL 2)), .mk none .none (.eff (.store 1 (eV 12) (eV 11)))]) (.seq (.seq (.reg [mvE 13 (.aG 2 (sL 2)),ldE 14 13,mvS 3 (.jd (eV 14))]) (.cond (sL 3) (.reg [ceS 16 0,ceS 17 0,clE 18 175 [eV 17,(.const (.int .i64 2))],clE 19 186 [eV 16,eV 18],mvE 20 (.aG 1 (sL 2)), .mk none .none (.eff (.store 1 (eV 20) (eV 19)))]) .skip)) (.seq (.reg [mvE 21 (.ldn 3 (sL 2)), .mk none .none (.eff (.store 3 (sL 1) (eV 21)))]) .ret))))),[.fG 3 (sL 1)]⟩
def iE (bs:List UInt8):Option (Bool×List UInt8×List UInt8×List UInt8):=
 if bs.length < 1 then none else
 if (bs.drop 1).length < 1 then none else
 if ((bs.drop 1).drop 1).length < be ((bs.drop 1).take 1) then none else
 if be (bs.take 1)=0 then some (true,((bs.drop 1).drop 1).take (be ((bs.drop 1).take 1)),[],((bs.drop 1).drop 1).drop (be ((bs.drop 1).take 1))) else
 if (((bs.drop 1).drop 1).drop (be ((bs.drop 1).take 1))).length < 2 then none else
 if ((((bs.drop 1).drop 1).drop (be ((bs.drop 1).take 1))).drop 2).length < be ((((bs.drop 1).drop 1).drop (be ((bs.drop 1).take 1))).take 2) then none else
 some (false,((bs.drop 1).drop 1).take (be ((bs.drop 1).take 1)),((((bs.drop 1).drop 1).drop (be ((bs.drop 1).take 1))).drop 2).take (be ((((bs.drop 1).drop 1).drop (be ((bs.drop 1).take 1))).take 2)),((((bs.drop 1).drop 1).drop (be ((bs.drop 1).take 1))).drop 2).drop (be ((((bs.drop 1).drop 1).drop (be ((bs.drop 1).take 1))).take 2)))
section
variable {X:Type} {E:Nat->Option (Ent X)}
def isI (v:AV):Prop:=∃ty x,v= .iface ty x
theorem vW (hE:∀f e,E f=some e->e.plain) (hf:E 175=some (.bc eQ)) (ht:E 186=some (.bc fB)) (hc:E 112=some (.bc dD)) (hg:E 115=some (.bc dU)) {h:Hp X} {g n m:Nat} {bs:List UInt8} (hr:Rdr h g m bs) (h7:n<=7) (hb:bs.length<=1099511627776):
  WC (lim E) 175 [.ptr g 0, .int .i64 n] h (fun r h'=>n<=bs.length/\Rdr h' g m (bs.drop n)/\Keep (az g) h h'/\r= .int .i64 (be (bs.take n))) (fun v h'=>bs.length < n/\isI v/\h'=h):=by
 by_cases hn:n<=bs.length
 ·exact .XX ((NT hE hf ht hc hg hr hn h7 hb).mono fun r h' q=>⟨hn,q⟩)
 ·obtain ⟨v,h',e,q⟩:=(NU hE hf ht hr (by omega:bs.length < n)).out
  exact .of_wp ⟨⟨v,h',e,by omega,q⟩⟩
theorem Rq (hE:∀f e,E f=some e->e.plain) (ht:E 186=some (.bc fB)) (hc:E 112=some (.bc dD)) {h:Hp X} {g n m:Nat} {bs:List UInt8} (hr:Rdr h g m bs) (hb:bs.length<=1099511627776):
  WC (lim E) 186 [.ptr g 0, .int .i64 n] h (fun r h'=>n<=bs.length/\Rdr h' g m (bs.drop n)/\Keep (az g) h h'/\(∀k,blk r k->h.n<=k)/\OS h' 1 r (bs.take n).length ((bs.take n).map ub)) (fun v h'=>bs.length < n/\isI v/\h'=h):=by
 by_cases hn:n<=bs.length
 ·exact .XX ((Lp hE ht hc hr hn hb).mono fun r h' q=>⟨hn,q⟩)
 ·obtain ⟨v,h',e,q⟩:=(Lr hE ht hr (by omega:bs.length < n)).out
  exact .of_wp ⟨⟨v,h',e,by omega,q⟩⟩
theorem Rdr.push {h:Hp X} {g m:Nat} {bs:List UInt8} (a:Rdr h g m bs) (c:AB X):Rdr (h.push c) g m bs:=a.keep (Keep.push NoB h c) (fun _ _ _ _ q=>q) (fun q=>q)
theorem Rdr.put {h:Hp X} {g m j:Nat} {bs:List UInt8} (a:Rdr h g m bs) (c:AB X) (hj:j≠g) (hm:m<=j):Rdr (h.put j c) g m bs:=by
 obtain ⟨lt,bv,h1,h2,h3,h4⟩:=a
 refine ⟨lt,bv,by rw [Hp.iQ _ _ _ (Ne.symm hj)];exact h1,h2.keep (Keep.put (S:=az j) h j c rfl) (fun k hk q=> ?_),h3,h4⟩
 have:=h4 k hk
 have:k=j:=q
 omega
structure abW (h:Hp X) (gone:Bool) (key value:List UInt8) (cells:List AV) (lo:Nat):Prop where
 ok:∃kv vv,cells=[kv,vv, .bool gone]/\OS h 1 kv key.length (key.map ub)/\OS h 1 vv value.length (value.map ub)/\(∀k,blk kv k->lo<=k)/\(∀k,blk vv k->lo<=k)
theorem Wi (hE:∀f e,E f=some e->e.plain) (he:E 176=some (.bc lI)) (hf:E 175=some (.bc eQ)) (ht:E 186=some (.bc fB)) (hc:E 112=some (.bc dD)) (hg:E 115=some (.bc dU)) {h:Hp X} {g m:Nat} {bs:List UInt8} (hr:Rdr h g m bs) (hm:m<=h.n) (hb:bs.length<=1099511627776):
  WC (lim E) 176 [.ptr g 0] h (fun r h'=>∃gone key value rest cells,iE bs=some (gone,key,value,rest)/\r= .agg cells/\Rdr h' g m rest/\Keep (az g) h h'/\abW h' gone key value cells h.n) (fun v h'=>iE bs=none/\isI v/\Keep (az g) h h'):=by
 refine aaI hE he rfl ?_
 simp only [lI,mvE,mvS,clE,efE,ceS,ceE,csE,faE,nlE,ldE,lnE,exE,eV,sL,kI,List.map,getS]
 have lt:=hr.lt
 repeat first|refine ZE ?_|refine BP ?_|refine BQ ?_
 refine jF rfl ((vW hE hf ht hc hg (hr.push _) (n:=1) (by omega) hb).mono (fun r h1 ⟨n1,r1,k1,e1⟩=> ?_) (fun v h1 ⟨n1,i1,e1⟩=> ?_))
 case refine_2=>
  repeat first|refine ZE ?_|refine BP ?_|refine BQ ?_
  subst e1
  exact ⟨by unfold iE;rw [if_pos n1],i1,Keep.push _ _ _⟩
 subst e1
 have K1:Keep (az g) h h1:=(Keep.push (az g) h _).trans k1 (fun _ _ q=>q)
 have p1:h1.get h.n=some (.rw [.ae, .ae, .bool false]):=by rw [k1.get h.n (Nat.lt_succ_self _) (fun q=>by have:h.n=g:=q;omega)];exact Hp.aK _ _
 repeat first|refine ZE ?_|refine BW (lC rfl rfl rfl rfl (Hp.aK _ _) (Nat.le_refl _)) ?_|refine BP ?_|refine BQ ?_
 obtain ⟨gb,hgb⟩:∃gb:Bool,gb=(((be (bs.take 1):Nat):Int)==0):=⟨_,rfl⟩
 obtain ⟨h2,hh2⟩:∃h2:Hp X,h2=((h1.push (.rw [.ae, .ae, .bool false])).put h1.n (.rw [.ae, .ae, .bool gb])):=⟨_,rfl⟩
 refine aJ (h':=h2) (by rw [hh2,hgb];rfl) ?_
 have lt1:h.n < h1.n:=by have:=k1.n;simp only [bJ] at this;omega
 have g2:h2.get h1.n=some (.rw [.ae, .ae, .bool gb]):=by rw [hh2];exact Hp.bW _ _ _
 have R2:Rdr h2 g m (bs.drop 1):=by rw [hh2];exact (r1.push _).put _ (by omega) (by omega)
 have K2:Keep (az g) h1 h2:=by rw [hh2];exact (Keep.push _ _ _).trans (Keep.put (S:=az h1.n) _ _ _ rfl) (fun k hk q=>by have:k=h1.n:=q;omega)
 have n2:h2.n=h1.n+1:=by rw [hh2];rfl
 have hb1:(bs.drop 1).length<=1099511627776:=by rw [List.length_drop];omega
 refine jF rfl ((vW hE hf ht hc hg R2 (n:=1) (by omega) hb1).mono (fun r h3 ⟨n3,r3,k3,e3⟩=> ?_) (fun v h3 ⟨n3,i3,e3⟩=> ?_))
 case refine_2=>
  repeat first|refine ZE ?_|refine BP ?_|refine BQ ?_
  subst e3
  exact ⟨by unfold iE;rw [if_neg (by omega),if_pos n3],i3,K1.trans K2 (fun _ _ q=>q)⟩
 subst e3
 have hb2:((bs.drop 1).drop 1).length<=1099511627776:=by rw [List.length_drop];omega
 repeat first|refine ZE ?_|refine BP ?_|refine BQ ?_
 refine jF rfl ((Rq hE ht hc r3 (n:=be ((bs.drop 1).take 1)) hb2).mono (fun kv h4 ⟨n4,r4,k4,b4,o4⟩=> ?_) (fun v h4 ⟨n4,i4,e4⟩=> ?_))
 case refine_2=>
  repeat first|refine ZE ?_|refine BP ?_|refine BQ ?_
  subst e4
  exact ⟨by unfold iE;rw [if_neg (by omega),if_neg (by omega),if_pos n4],i4,(K1.trans K2 (fun _ _ q=>q)).trans k3 (fun _ _ q=>q)⟩
 have g4:h4.get h1.n=some (.rw [.ae, .ae, .bool gb]):=by
  rw [k4.get h1.n (by have:=k3.n;omega) (fun q=>by have:h1.n=g:=q;have:=hr.lt;omega),k3.get h1.n (by omega) (fun q=>by have:h1.n=g:=q;have:=hr.lt;omega)]
  exact g2
 repeat first|refine ZE ?_|refine BW (sS rfl rfl o4.one g4 (Nat.zero_lt_succ _)) ?_|refine BP ?_|refine BQ ?_
 obtain ⟨h5,hh5⟩:∃h5:Hp X,h5=h4.put h1.n (.rw [kv, .ae, .bool gb]):=⟨_,rfl⟩
 refine aJ (h':=h5) (by rw [hh5];rfl) ?_
 have K4:Keep (az g) h h4:=((K1.trans K2 (fun _ _ q=>q)).trans k3 (fun _ _ q=>q)).trans k4 (fun _ _ q=>q)
 have K5:Keep (az g) h h5:=by rw [hh5];exact K4.trans (Keep.put (S:=az h1.n) _ _ _ rfl) (fun k hk q=>by have:k=h1.n:=q;omega)
 have hlt4:h1.n < h4.n:=by have:=k3.n;have:=k4.n;omega
 have g5:h5.get h1.n=some (.rw [kv, .ae, .bool gb]):=by rw [hh5];exact Hp.bW _ _ _
 have R5:=r4.put (.rw [kv, .ae, .bool gb]) (j:=h1.n) (by omega) (by omega)
 rw [<-hh5] at R5
 have o5:=o4.keep (S:=az h1.n) (h':=h5) (by rw [hh5];exact Keep.put _ _ _ rfl) (fun k hk q=>by have:k=h1.n:=q;have:=b4 k hk;have:=k3.n;omega)
 have q5:h5.get h.n=some (.rw [.ae, .ae, .bool false]):=by
  rw [hh5,Hp.iQ _ _ _ (by omega),k4.get h.n (by have:=k3.n;omega) (fun q=>by have:h.n=g:=q;omega),k3.get h.n (by omega) (fun q=>by have:h.n=g:=q;omega),K2.get h.n (by omega) (fun q=>by have:h.n=g:=q;omega)]
  exact p1
 have n5:h5.n=h4.n:=by rw [hh5];rfl
 by_cases hz:be (bs.take 1)=0
 ·have hgt:gb=true:=by rw [hgb,hz];rfl
  subst hgt
  have hall:allOne [kv, .ae, .bool true]=true:=by
   have:=o5.one.2
   unfold allOne
   cases kv<;>first|(cases this;done)|rfl
  repeat first|refine ZE ?_|refine BV (eG rfl g5 rfl) ?_|refine BV (xJ rfl g5 (Nat.le_refl _)) ?_|refine BW (lC rfl rfl hall rfl q5 (Nat.le_refl _)) ?_|refine BP ?_|refine BQ ?_
  obtain ⟨h6,hh6⟩:∃h6:Hp X,h6=h5.put h.n (.rw [kv, .ae, .bool true]):=⟨_,rfl⟩
  refine BA (l:=[.agg [kv, .ae, .bool true]]) (yD (g:=h.n) (o:=0) rfl (Hp.bW _ _ _) (Nat.le_refl _)) ?_
  have kp:Keep (az h.n) h5 (h5.put h.n (.rw [kv, .ae, .bool true])):=Keep.put _ _ _ rfl
  refine ⟨true,_,[],_,_, ?_,rfl,R5.put _ (by omega) hm,K5.trans kp (fun k hk q=>by have:k=h.n:=q;omega),⟨⟨kv, .ae,rfl,o5.keep kp (fun k hk q=> ?_),⟨rfl,rfl⟩,fun k hk=> ?_,fun k q=>q.elim⟩⟩⟩
  ·unfold iE
   rw [if_neg (by omega),if_neg (by omega),if_neg (by omega),if_pos hz]
  ·have:k=h.n:=q
   have:=b4 k hk
   have:=k3.n
   omega
  ·have:=b4 k hk
   have:=k3.n
   omega
 ·have hgt:gb=false:=by rw [hgb];exact beq_false_of_ne (by omega)
  subst hgt
  have hb3:(((bs.drop 1).drop 1).drop (be ((bs.drop 1).take 1))).length<=1099511627776:=by rw [List.length_drop];omega
  repeat first|refine ZE ?_|refine BV (eG rfl g5 rfl) ?_|refine BP ?_|refine BQ ?_
  refine jF rfl ((vW hE hf ht hc hg R5 (n:=2) (by omega) hb3).mono (fun r h6 ⟨n6,r6,k6,e6⟩=> ?_) (fun v h6 ⟨n6,i6,e6⟩=> ?_))
  case refine_2=>
   repeat first|refine ZE ?_|refine BP ?_|refine BQ ?_
   subst e6
   exact ⟨by unfold iE;rw [if_neg (by omega),if_neg (by omega),if_neg (by omega),if_neg hz,if_pos n6],i6,K5⟩
  subst e6
  have hb4:((((bs.drop 1).drop 1).drop (be ((bs.drop 1).take 1))).drop 2).length<=1099511627776:=by rw [List.length_drop];omega
  repeat first|refine ZE ?_|refine BP ?_|refine BQ ?_
  refine jF rfl ((Rq hE ht hc r6 hb4).mono (fun vv h7 ⟨n7,r7,k7,b7,o7⟩=> ?_) (fun v h7 ⟨n7,i7,e7⟩=> ?_))
  case refine_2=>
   repeat first|refine ZE ?_|refine BP ?_|refine BQ ?_
   subst e7
   exact ⟨by unfold iE;rw [if_neg (by omega),if_neg (by omega),if_neg (by omega),if_neg hz,if_neg (by omega),if_pos n7],i7,K5.trans k6 (fun _ _ q=>q)⟩
  have hg1:h1.n≠g:=by omega
  have hg0:h.n≠g:=by omega
  have K7:Keep (az g) h5 h7:=k6.trans k7 (fun _ _ q=>q)
  have g7:h7.get h1.n=some (.rw [kv, .ae, .bool false]):=by rw [K7.get h1.n (by omega) (fun q=>hg1 q)];exact g5
  have q7:h7.get h.n=some (.rw [.ae, .ae, .bool false]):=by rw [K7.get h.n (by omega) (fun q=>hg0 q)];exact q5
  obtain ⟨h8,hh8⟩:∃h8:Hp X,h8=h7.put h1.n (.rw [kv,vv, .bool false]):=⟨_,rfl⟩
  have k8:Keep (az h1.n) h7 h8:=by rw [hh8];exact Keep.put _ _ _ rfl
  have g8:h8.get h1.n=some (.rw [kv,vv, .bool false]):=by rw [hh8];exact Hp.bW _ _ _
  have q8:h8.get h.n=some (.rw [.ae, .ae, .bool false]):=by rw [hh8,Hp.iQ _ _ _ (by omega)];exact q7
  have n8:h8.n=h7.n:=by rw [hh8];rfl
  have n57:=K7.n
  have b4':=fun k q=>b4 k q
  have o5k:=o5.lt
  have o7k:=o7.lt
  have okv:OS h8 1 kv _ _:=(o5.keep K7 (fun k q1 q2=>by have:=b4 k q1;have q2:k=g:=q2;have:=k3.n;omega)).keep k8 (fun k q1 q2=>by have:=b4 k q1;have q2:k=h1.n:=q2;have:=k3.n;omega)
  have ovv:OS h8 1 vv _ _:=o7.keep k8 (fun k q1 q2=>by have:=b7 k q1;have q2:k=h1.n:=q2;have:=k6.n;have:=k3.n;omega)
  have R8:=r7.put (.rw [kv,vv, .bool false]) (j:=h1.n) (by omega) (by omega)
  rw [<-hh8] at R8
  have hall:allOne [kv,vv, .bool false]=true:=by
   have h1:=okv.one.2
   have h2:=ovv.one.2
   unfold allOne
   cases kv<;>first|(cases h1;done)|(cases vv<;>first|(cases h2;done)|rfl)
  repeat first|refine ZE ?_|refine BW (sS rfl rfl o7.one g7 (Nat.succ_lt_succ (Nat.zero_lt_succ _))) ?_|refine BP ?_|refine BQ ?_
  refine aJ (h':=h8) (by rw [hh8];rfl) ?_
  repeat first|refine ZE ?_|refine BV (eG rfl g8 rfl) ?_|refine BV (xJ rfl g8 (Nat.le_refl _)) ?_|refine BW (lC rfl rfl hall rfl q8 (Nat.le_refl _)) ?_|refine BP ?_|refine BQ ?_
  refine BA (l:=[.agg [kv,vv, .bool false]]) (yD (g:=h.n) (o:=0) rfl (Hp.bW _ _ _) (Nat.le_refl _)) ?_
  have kp:Keep (az h.n) h8 (h8.put h.n (.rw [kv,vv, .bool false])):=Keep.put _ _ _ rfl
  refine ⟨false,_,_,_,_, ?_,rfl,R8.put _ (by omega) hm,((K5.trans K7 (fun _ _ q=>q)).trans k8 (fun k hk q=>by have:k=h1.n:=q;omega)).trans kp (fun k hk q=>by have:k=h.n:=q;omega),⟨⟨kv,vv,rfl,okv.keep kp (fun k q1 q2=> ?_),ovv.keep kp (fun k q1 q2=> ?_),fun k q=> ?_,fun k q=> ?_⟩⟩⟩
  ·unfold iE
   rw [if_neg (by omega),if_neg (by omega),if_neg (by omega),if_neg hz,if_neg (by omega),if_neg (by omega)]
  ·have:=b4 k q1;have q2:k=h.n:=q2;have:=k3.n;omega
  ·have:=b7 k q1;have q2:k=h.n:=q2;have:=k6.n;have:=k3.n;omega
  ·have:=b4 k q;have:=k3.n;omega
  ·have:=b7 k q;have:=k6.n;have:=k3.n;omega
end
def jh:DF:=⟨21,[0,2,3,4,12],(.right (.reg [.mk none (.slot 1) (.eff (.alloc [.ae]))]) (.left (.here (.IP 174 [(.slot 1)]) (.env 5) (.env 5)) (.seq (.reg [.mk none (.env 6) (.mov (.mv (.slot 0))), .mk none (.env 7) (.mov (.bld [.ae] [(0,1,(.env 6))])), .mk none (.env 8) (.eff (.box (.env 7))), .mk none (.slot 2) (.mov (.mv (.env 8)))]) (.seq (.seq (.reg [.mk none (.env 9) (.mov (.mv (.slot 2))), .mk none (.env 10) (.call 175 [(.env 9),(.const (.int .i64 2))]), .mk none (.slot 3) (.mov (.mv (.env 10)))]) (.block 0 (.loop (.seq (.seq (.reg [.mk none (.env 11) (.mov (.mv (.slot 3))), .mk none (.slot 4) (.mov (.bin .gtr .no (.env 11) (.const (.int .i64 0))))]) (.cond (.slot 4) .skip (.exit 0))) (.seq (.block 1 (.iC [(.mk none (.env 15) (.mov (.ld1 (.slot 1))),[]),(.mk none (.env 16) (.mov (.mv (.slot 2))),[]),(.mk none (.env 17) (.call 176 [(.env 16)]),[0]),(.mk none (.env 18) (.eff (.aF 3 1 [.ae, .ae,(.bool false)] [(0,3,(.env 17))])),[0]),(.mk none (.env 19) (.eff (.append 3 56 (.env 15) (.env 18))),[]),(.mk none .none (.eff (.store 1 (.slot 1) (.env 19))),[])])) (.reg [.mk none (.env 13) (.mov (.mv (.slot 3))), .mk none (.env 14) (.mov (.bin .sub .no (.env 13) (.const (.int .i64 1)))), .mk none (.slot 3) (.mov (.mv (.env 14)))])))))) (.seq (.reg [.mk none (.env 20) (.mov (.ld1 (.slot 1))), .mk none .none (.eff (.store 1 (.slot 1) (.env 20)))]) .ret))))),[.cell1 (.slot 1)],⟨174,3,[0,2],(.env 1),(.slot 1),(.cond (.slot 1) (.reg [.mk none .none (.eff (.store 1 (.slot 0) (.const .ae)))]) .skip)⟩⟩
def jW:BF:=⟨24,[0,2,3,4,5,6,22],(.seq (.reg [mvS 1 (.mv (.const .ae)),mvS 2 (.mv (.const (.int .i64 0)))]) (.seq (.reg [ceS 7 0,clE 8 157 [eV 7],csE 3 8]) (.seq (.reg [ceS 10 3,clE 11 105 [eV 10],ceE 9 11,exE 12 0 9,exE 13 1 9,csE 4 12,csE 5 13]) (.seq (.seq (.reg [ceS 14 5,mvE 15 (.bin .neq .no (eV 14) (.const (.int .i64 0))),ceE 16 15, .mk (some ((eV 16),false)) (.env 17) (.mov (.mv (sL 4))), .mk (some ((eV 16),false)) (.env 18) (.mov (.b2s (eV 17))), .mk (some ((eV 16),false)) (.env 19) (.mov (.mv (sL 0))), .mk (some ((eV 16),false)) (.env 20) (.mov (.b2s (eV 19))), .mk (some ((eV 16),false)) (.env 21) (.mov (.bin .neq .no (eV 18) (eV 20))),mvS 6 (.pick (eV 16) (.const (.bool true)) (eV 21))]) (.cond (sL 6) (.seq (.reg [mvS 1 (.mv (.const .ae)),mvS 2 (.mv (.const (.int .i64 12)))]) .ret) .skip)) (.seq (.reg [ceS 23 3,csE 1 23,mvS 2 (.mv (.const (.int .i64 0)))]) .ret))))),[.slot (sL 1), .slot (sL 2)]⟩
section
variable {X:Type}
structure dgQ (t2:List AV) (res:List Rs) (Q:AV->Hp X->Prop) (r:R X):Prop where
 out:match r with
 | .norm _ h=>∃l,resV t2 h res=some l/\Q (packA l) h
 | .ret _ h=>∃l,resV t2 h res=some l/\Q (packA l) h
 |_=>False
theorem EF {t2 t:List AV} {h:Hp X} {res:List Rs} {Q:AV->Hp X->Prop} {l:List AV} (hl:resV t2 h res=some l) (q:Q (packA l) h):dgQ t2 res Q (.norm t h):=⟨⟨l,hl,q⟩⟩
structure dfQ (D:Dp X) (G:DG) (cs:List AV) (res:List Rs) (Q:AV->Hp X->Prop) (r:R X):Prop where
 out:∃pan t2 h2,howR r=some (pan,t2,h2)/\WB D G.body (putT G.d1 (.bool pan) (putT G.d0 .bot (G.keep.map fun d=>getS cs d))) h2 (dgQ t2 res Q)
variable {D:Dp X} {G:DG} {cs:List AV} {res:List Rs} {Q:AV->Hp X->Prop} {t:List AV} {h:Hp X}
theorem Rt (H:WB D G.body (putT G.d1 (.bool false) (putT G.d0 .bot (G.keep.map fun d=>getS cs d))) h (dgQ t res Q)):dfQ D G cs res Q (.ret t h):=⟨⟨false,t,h,rfl,H⟩⟩
theorem Zq {v:AV} (hv:isI v) (H:WB D G.body (putT G.d1 (.bool true) (putT G.d0 .bot (G.keep.map fun d=>getS cs d))) h (dgQ t res Q)):dfQ D G cs res Q (.panic v t h):=by
 obtain ⟨ty,x,rfl⟩:=hv
 exact ⟨⟨true,t,h,rfl,H⟩⟩
end
theorem X6 {X:Type} {E:Nat->Option (Ent X)} (hE:∀f e,E f=some e->e.plain) {f:Nat} {b:DF} (hf:E f=some (.df b)) {args:List AV} {h:Hp X} {Q:AV->Hp X->Prop} (hl:Nat.ble args.length b.nt=true) {a c:BC} {m:Mv} {d:Ds} {x:Od} (hb:b.body= .right a (.left (.here m d x) c))
  {t1:List AV} {h1:Hp X} {v:AV} {cs:List AV} (H1:WB (lim E) a (b.keep.map fun d=>getS args d) h fun r=>r= .norm t1 h1) (hm:m.ev [] t1 h1=some v) (hx:x.ev (putE d v []) (putT d v t1)= .func b.G.g cs) (hc:Nat.ble cs.length b.G.nt=true)
  (H2:WB (lim E) c (putT d v t1) h1 (dfQ (lim E) b.G cs b.res Q)):WF (lim E) f args h Q:=by
 obtain ⟨r1,g1,rfl⟩:=H1.out
 obtain ⟨r2,g2,q2⟩:=H2.out
 obtain ⟨pan,t2,h2,e2,H3⟩:=q2.out
 obtain ⟨r3,g3,q3⟩:=H3.out
 obtain ⟨n1,m1⟩:=g1.le
 obtain ⟨n2,m2⟩:=g2.le
 obtain ⟨n3,m3⟩:=g3.le
 have key:∀N,n1<=N->n2<=N->n3<=N->∃l h3,b.run N (lim E) args h= .ret (packA l) h3/\Q (packA l) h3:=fun N k1 k2 k3=>by
  have eb:b.body.run (fun b t h=>b.run (lim E) (drR (lim E)) N t h) (b.keep.map fun d=>getS args d) h=some (.func b.G.g cs,r2):=by
   rw [hb]
   show (match a.run (lim E) (drR (lim E)) N (b.keep.map fun d=>getS args d) h with| .norm t' h'=>BD.run (fun b t h=>b.run (lim E) (drR (lim E)) N t h) (.left (.here m d x) c) t' h'|_=>none)=_
   rw [m1 N k1]
   show (match (match m.ev [] t1 h1 with|some v=>some (x.ev (putE d v []) (putT d v t1),R.norm (putT d v t1) h1)|none=>none) with|some (f,r)=>some (f,seqR r (fun t h=>c.run (lim E) (drR (lim E)) N t h))|none=>none)=_
   rw [hm]
   simp only [hx]
   show some (_,c.run (lim E) (drR (lim E)) N (putT d v t1) h1)=_
   rw [m2 N k2]
  have e0:b.run N (lim E) args h=endD (fun b t h=>b.run (lim E) (drR (lim E)) N t h) b (some (.func b.G.g cs,r2)):=by
   show (bif Nat.ble args.length b.nt then endD (fun b t h=>b.run (lim E) (drR (lim E)) N t h) b (b.body.run (fun b t h=>b.run (lim E) (drR (lim E)) N t h) (b.keep.map fun d=>getS args d) h) else .bad)=_
   rw [hl,eb]
   rfl
  have eg:∀h3,(r3= .norm (match r3 with| .norm t _=>t|_=>[]) h3\/r3= .ret (match r3 with| .ret t _=>t|_=>[]) h3)->b.G.run (fun b t h=>b.run (lim E) (drR (lim E)) N t h) pan cs h2=some h3:=fun h3 hr=>by
   unfold DG.run
   rw [hc]
   simp only [cond_true]
   rw [m3 N k3]
   rcases hr with hr|hr<;>rw [hr]
  have fin:∀h3 l,b.G.run (fun b t h=>b.run (lim E) (drR (lim E)) N t h) pan cs h2=some h3->resV t2 h3 b.res=some l->b.run N (lim E) args h= .ret (packA l) h3:=fun h3 l k1 k2=>by
   rw [e0]
   unfold endD
   simp only [Nat.beq_refl,cond_true,e2,k1,k2]
  cases r3 with
  |norm t3 h3=>obtain ⟨l,q4,q5⟩:=q3.out;exact ⟨l,h3,fin h3 l (eg h3 (.inl rfl)) q4,q5⟩
  |ret t3 h3=>obtain ⟨l,q4,q5⟩:=q3.out;exact ⟨l,h3,fin h3 l (eg h3 (.inr rfl)) q4,q5⟩
  |_=>exact q3.out.elim
 obtain ⟨l,h3,k1,k2⟩:=key (max n1 (max n2 n3)) (by omega) (by omega) (by omega)
 exact ⟨⟨_,_,(Ze hE hf (N:=max n1 (max n2 n3)) (by rw [k1];intro q;cases q)).trans k1,k2⟩⟩
section
variable {X:Type} {D:Dp X}
structure WDX (D:Dp X) (l:Dr) (past:List (Pa X)) (e:En) (t:List AV) (h:Hp X) (t0:List AV) (Q:R X->Prop):Prop where
 out:∃r,drGo D l past e t h=r/\r≠ .bad/\Q (panR t0 r)
variable {l:Dr} {past:List (Pa X)} {e:En} {t:List AV} {h:Hp X} {t0:List AV} {Q:R X->Prop}
theorem Ru (H:WDX D l [] [] t h (mQ l t) Q):WB D (.iC l) t h Q:=by
 obtain ⟨r,h1,h2,h3⟩:=H.out
 refine ⟨⟨_,Ce (r:=panR (mQ l t) r) (fun e=>h2 (by cases r<;>simp_all [panR])) (by unfold drR;rw [h1]),h3⟩⟩
theorem WDX.of (H:WD D l past e t h Q):WDX D l past e t h t0 Q:=by
 obtain ⟨t',h',h1,h2⟩:=H.out
 exact ⟨⟨_,h1,(fun e=>by cases e),h2⟩⟩
theorem X7 {k:Nat} {m:Mv} {v:AV} (hm:m.ev e t h=some v) (H:WDX D l (past++[.mov m e t v]) ((k,v)::e) t h t0 Q):WDX D ((.mk none (.env k) (.mov m),[])::l) past e t h t0 Q:=by
 obtain ⟨r,h1,h2⟩:=H.out
 refine ⟨⟨r, ?_,h2⟩⟩
 simp only [drGo,gdv,St1.g,St1.o,St1.d,Op1.run,hm,paOf,chkAll,cond_true]
 exact h1
theorem Rw {k f:Nat} {xs:List Od} {chk:List Nat} {args:List AV} (ha:(xs.map fun x=>x.ev e t)=args) (H:WC D f args h (fun v h'=>Chk h' past chk/\WDX D l (past++[.skip]) ((k,v)::e) t h' t0 Q) (fun v h'=>Q (.panic v t0 h'))):WDX D ((.mk none (.env k) (.call f xs),chk)::l) past e t h t0 Q:=by
 subst ha
 rcases H.out with ⟨v,h',e1,hc,q⟩|⟨v,h',e1,q⟩
 ·obtain ⟨r,h1,h2⟩:=q.out
  refine ⟨⟨r, ?_,h2⟩⟩
  simp only [drGo,gdv,St1.g,St1.o,St1.d,Op1.run,e1,paOf,hc.out,cond_true]
  exact h1
 ·refine ⟨⟨.panic v t h', ?_,(fun e=>by cases e),q⟩⟩
  simp only [drGo,gdv,St1.g,St1.o,St1.d,Op1.run,e1]
end
def parseN:Nat->List UInt8->Option (List EM)
 |0,_=>some []
 |k+1,bs=>match iE bs with
  |none=>none
  |some (gone,key,val,rest)=>(parseN k rest).map fun l=>⟨key,val,gone⟩::l
def mZ (bs:List UInt8):Option (List EM):=if bs.length < 2 then none else parseN (be (bs.take 2)) (bs.drop 2)
section
variable {X:Type} {h h':Hp X}
structure aN (h:Hp X) (v:AV) (l:List EM) (F:Nat->Prop):Prop where
 out:∃tri:List T3,RS h 3 v l.length (tri.flatMap f3)/\tri.length=l.length/\(∀(i:Nat) q e,tri[i]?=some q->l[i]?=some e->eH h q e)/\(∀k,blk v k->F k)/\∀q∈tri,∀k,blk q.1 k\/blk q.2.1 k->F k
theorem eH.keep {S:Nat->Prop} {q:T3} {e:EM} (a:eH h q e) (k:Keep S h h') (hs:∀k,blk q.1 k\/blk q.2.1 k->¬S k):eH h' q e:=⟨a.gone,a.key.keep k (fun j hj=>hs j (.inl hj)),a.val.keep k (fun j hj=>hs j (.inr hj)),a.nse⟩
theorem aN.keep {S F:Nat->Prop} {v:AV} {l:List EM} (a:aN h v l F) (k:Keep S h h') (hs:∀k,F k->¬S k):aN h' v l F:=by
 obtain ⟨tri,h1,h2,h3,h4,h5⟩:=a.out
 exact ⟨tri,h1.keep k (fun j hj=>hs j (h4 j hj)),h2,fun i q e q1 q2=>(h3 i q e q1 q2).keep k (fun j hj=>hs j (h5 q (List.mem_of_getElem? q1) j hj)),h4,h5⟩
theorem aN.up {F:Nat->Prop} {v:AV} {l:List EM} (a:aN h v l F) (k:Keep NoB h h'):aN h' v l F:=a.keep k (fun _ _ q=>q)
theorem aN.on {F G:Nat->Prop} {v:AV} {l:List EM} (a:aN h v l F) (hs:∀k,F k->G k):aN h v l G:=by
 obtain ⟨tri,h1,h2,h3,h4,h5⟩:=a.out
 exact ⟨tri,h1,h2,h3,fun k q=>hs k (h4 k q),fun q hq k hk=>hs k (h5 q hq k hk)⟩
theorem aN.Wj {F:Nat->Prop} {v:AV} {l:List EM} (a:aN h v l F):Zp h v l:=by
 obtain ⟨tri,h1,h2,h3,_⟩:=a.out
 exact ⟨tri,h1,h2,h3⟩
theorem aN.nil {F:Nat->Prop}:aN h .ae [] F:=⟨[],⟨rfl,rfl⟩,rfl,fun i q e q1=>by simp at q1,fun k q=>q.elim,fun q hq=>by simp at hq⟩
end
section
variable {X:Type} {e:En} {t:List AV} {h:Hp X}
theorem ji {x:Od} {a b:AV} {c:Bool} (hx:x.ev e t= .agg [a,b, .bool c]) (ha:a.one=true) (hb:b.one=true):(Ef.aF 3 1 [.ae, .ae, .bool false] [(0,3,x)]).ev e t h=some (.slice 3 h.n 0 1 (some 1),h.push (.rw [a,b, .bool c])):=by
 have ho:allOne [a,b, .bool c]=true:=aX ha hb rfl
 simp only [Ef.ev,List.map,hx]
 show (bif allOne [a,b, .bool c] && Nat.beq 3 (1*3) && Nat.ble 1 maxLen then some (AV.slice 3 h.n 0 1 (some 1),h.push (.rw [a,b, .bool c])) else none)=_
 rw [ho]
 rfl
theorem Rx {x:Od} {a z0:AV} (hx:x.ev e t=a) (ha:cellsOf a=some [a]):(Mv.bld [z0] [(0,1,x)]).ev e t h=some (.agg [a]):=by
 simp only [Mv.ev,List.map,hx,fillA,ha]
 rfl
theorem JB {bs k v r:List UInt8} {g:Bool} (H:iE bs=some (g,k,v,r)):r.length<=bs.length:=by
 unfold iE at H
 repeat' split at H
 all_goals first|(cases H;done)|skip
 all_goals
  simp only [Option.some.injEq,Prod.mk.injEq] at H
  obtain ⟨_,_,_,rfl⟩:=H
  simp only [List.length_drop]
  omega
theorem xN {n:Nat} {bs k v r:List UInt8} {g:Bool} (H:iE bs=some (g,k,v,r)):parseN (n+1) bs=(parseN n r).map fun l=>⟨k,v,g⟩::l:=by
 conv=>lhs;unfold parseN
 rw [H]
theorem xq {g:Nat} {x:Od} {v:AV} {l:List AV} (hb:Bx h g (v::l)) (hx:x.ev [] t= .ptr g 0):resV t h [.cell1 x]=some [v]:=by
 unfold resV
 rw [show (Rs.cell1 x).ev t h=some v from au hb hx rfl]
 rfl
end
structure aaT {X:Type} (E:Nat->Option (Ent X)):Prop where
 read:E 157=some (.df jh)
 entry:E 176=some (.bc lI)
 number:E 175=some (.bc eQ)
 take:E 186=some (.bc fB)
 clone:E 112=some (.bc dD)
 get:E 115=some (.bc dU)
section
variable {X:Type} {E:Nat->Option (Ent X)}
def LX (h:Hp X) (bs:List UInt8) (r:AV) (h':Hp X):Prop:=Keep NoB h h'/\aN h' r ((mZ bs).getD []) (fun k=>h.n<=k)
theorem Ry (bs:List UInt8):be (bs.take 2) < 65536:=by
 have h1:=GU (bs.take 2)
 have h2:(bs.take 2).length<=2:=List.length_take_le ..
 have h3:256^(bs.take 2).length<=256^2:=Nat.pow_le_pow_right (by decide) h2
 omega
set_option maxHeartbeats 8000000 in
theorem Rz (hE:∀f e,E f=some e->e.plain) (T:aaT E) {h:Hp X} {v:AV} {bs:List UInt8} (hr:RS h 1 v bs.length (bs.map ub)) (hv:v≠ .bV) (hb:bs.length<=1099511627776):
  WF (lim E) 157 [v] h fun r h'=>LX h bs r h':=by
 have gone:∀{hh:Hp X} {lv w:AV} {t:List AV},Bx hh h.n [lv]->Keep NoB h hh->mZ bs=none->isI w->getS t 1= .ptr h.n 0->dfQ (lim E) jh.G [.ptr h.n 0] jh.res (fun r h'=>LX h bs r h') (.panic w t hh):=fun {hh lv w t} bx K hn hw ht=>by
  refine Zq hw ?_
  show WB (lim E) (.cond (.slot 1) (.reg [.mk none .none (.eff (.store 1 (.slot 0) (.const .ae)))]) .skip) [.ptr h.n 0, .bool true] _ _
  repeat first|refine ZE ?_|refine BW (fQ bx rfl rfl ⟨rfl,rfl⟩ (Nat.zero_lt_succ _)) ?_|refine BP ?_|refine BQ ?_
  refine EF (l:=[.ae]) (xq (l:=[]) bx.put ht) ⟨K.own (Keep.put (S:=az h.n) _ _ _ rfl) (fun k q=>by have:k=h.n:=q;omega), ?_⟩
  rw [hn]
  exact aN.nil
 refine X6 hE T.read rfl (m:=_) (d:=_) (x:=_) (a:=_) (c:=_) rfl (t1:=[v, .ptr h.n 0, .bot, .bot, .bot]) (h1:=h.push (.rw [.ae])) (v:= .func 174 [.ptr h.n 0]) (cs:=[.ptr h.n 0]) ?_ rfl rfl rfl ?_
 ·simp only [jh,mvE,mvS,clE,efE,ceS,ceE,csE,faE,nlE,ldE,lnE,exE,eV,sL,kI,List.map,getS]
  repeat first|refine ZE ?_|refine BP ?_|refine BQ ?_
  exact BR rfl
 show WB (lim E) _ [v, .ptr h.n 0, .bot, .bot, .bot] _ _
 have RF:=hr.one
 have hlt:=hr.lt
 have b1:Bx (h.push (.rw [.ae])) h.n [AV.ae]:=aH
 have R1:Rdr ((h.push (.rw [.ae])).push (.rw [v])) (h.n+1) h.n bs:=⟨Nat.lt_succ_self _,v,Hp.aK _ _,(hr.up (Keep.push _ _ _)).up (Keep.push _ _ _),hv,fun k hk=>⟨by have:=hlt k hk;omega,hlt k hk⟩⟩
 have b2:=b1.up (Keep.push NoB _ (.rw [v]))
 have hall:allOne [v]=true:=by
  have:=RF.2
  unfold allOne
  cases v<;>first|(cases this;done)|rfl
 repeat first|refine ZE ?_|refine BV (Rx rfl RF.1) ?_|refine BW (iD rfl hall) ?_|refine BP ?_|refine BQ ?_
 refine jF rfl ((vW hE T.number T.take T.clone T.get R1 (n:=2) (by omega) hb).mono (fun r h3 ⟨n3,r3,k3,e3⟩=> ?_) (fun w h3 ⟨n3,i3,e3⟩=> ?_))
 case refine_2=>
  repeat first|refine ZE ?_|refine BP ?_|refine BQ ?_
  subst e3
  exact gone b2 ((Keep.push _ _ _).and (Keep.push _ _ _)) (by unfold mZ;rw [if_pos n3]) i3 rfl
 subst e3
 have hlt2:=Ry bs
 have b3:=b2.keep k3 (fun q=>by have q:h.n=h.n+1:=q;omega)
 have K3:Keep NoB h h3:=(((Keep.push NoB h (.rw [.ae])).and (Keep.push _ _ (.rw [v]))).own k3 (fun k q=>by have q:k=h.n+1:=q;omega))
 have n3h:=K3.n
 have n3k:=k3.n
 simp only [bJ] at n3k
 repeat first|refine ZE ?_|refine BP ?_|refine BQ ?_
 refine aQ (fun n t hh=>∃(done:List EM) (rest:List UInt8) (lv s4:AV) (tri:List T3),done.length+n<=65535/\Keep NoB h hh/\h.n+2<=hh.n/\Bx hh h.n [lv]/\Rdr hh (h.n+1) h.n rest/\rest.length<=1099511627776/\
  OS hh 3 lv done.length (tri.flatMap f3)/\tri.length=done.length/\(∀(i:Nat) q e,tri[i]?=some q->done[i]?=some e->eH hh q e)/\(∀k,blk lv k->h.n+2<=k)/\(∀q∈tri,∀k,blk q.1 k\/blk q.2.1 k->h.n+2<=k/\k < hh.n/\¬blk lv k)/\
  mZ bs=(parseN n rest).map (done++·)/\t=[v, .ptr h.n 0, .ptr (h.n+1) 0, .int .i64 n,s4]) ?_ (be (bs.take 2)) _ _ ⟨[],bs.drop 2, .ae,_,[],by simp;omega,K3,n3k,b3,r3,by rw [List.length_drop];omega,⟨rfl,rfl⟩,rfl,by simp,fun k q=>q.elim,by simp, ?_,rfl⟩
 rotate_left
 ·unfold mZ
  rw [if_neg (by omega)]
  simp
 rintro n t hh ⟨done,rest,lv,s4,tri,hdn,K,hn2,bx,rd,hrl,ol,htl,hev,lo,hfr,hp,rfl⟩
 by_cases hn:0 < n
 ·obtain ⟨k,rfl⟩:∃k,n=k+1:=⟨n - 1,by omega⟩
  repeat first|refine ZF ?_|refine BP ?_|refine BQ ?_
  refine Ru ?_
  refine X7 (au bx rfl rfl) ?_
  refine X7 rfl ?_
  refine Rw rfl ((Wi hE T.entry T.number T.take T.clone T.get rd (by omega) hrl).mono (fun r h4 ⟨gn,key,val,rst,cells,hpe,hre,rd4,k4,ec⟩=> ?_) (fun w h4 ⟨hpn,iw,k4⟩=> ?_))
  rotate_left
  ·have b4:=bx.keep k4 (fun q=>by have q:h.n=h.n+1:=q;omega)
   repeat first|refine ZE ?_|refine BP ?_|refine BQ ?_
   refine gone b4 (K.own k4 (fun k q=>by have q:k=h.n+1:=q;omega)) ?_ iw rfl
   rw [hp]
   unfold parseN
   rw [hpn]
   rfl
  obtain ⟨kv,vv,rfl,okv,ovv,bkv,bvv⟩:=ec.ok
  subst hre
  have lvn:=ol.lt
  have n4:=k4.n
  have b4:=bx.keep k4 (fun q=>by have q:h.n=h.n+1:=q;omega)
  have ol4:=ol.keep k4 (fun k q1 q2=>by have:=lo k q1;have q2:k=h.n+1:=q2;omega)
  refine ⟨aZ rfl (au b4 rfl rfl) aW, ?_⟩
  refine WDX.of ?_
  have kp:Keep NoB h4 (h4.push (.rw [kv,vv, .bool gn])):=Keep.push _ _ _
  have b5:=b4.up kp
  refine EE (cs:=[kv,vv, .bool gn]) (ji rfl okv.one.2 ovv.one.2) (aZ rfl (au b5 rfl rfl) aW) ?_
  have hll:=ol.len
  refine Ro rfl rfl (ol4.up kp) (by decide) (bH (n:=1) (z:=3) rfl) (by omega) (by have:(maxLen:Nat)=9223372036854775807:=rfl;omega) fun l6 h6 a1 a2 a3=> ?_
  have b6:=b5.keep a2 (fun q=>by have:=lo _ q;omega)
  refine ⟨aW, ?_⟩
  refine rD (fQ b6 rfl rfl a1.one (Nat.zero_lt_succ _)) aW ?_
  repeat first|refine ZM ?_|refine BP ?_|refine BQ ?_|refine CC ?_
  have kq:Keep (az h.n) h6 (h6.put h.n (.rw [l6])):=Keep.put _ _ _ rfl
  have n6:=a2.n
  simp only [bJ] at n6
  have lo6:∀k,blk l6 k->h.n+2<=k:=fun k q=>by
   rcases a3 k q with q|q
   ·exact lo k q
   ·simp only [bJ] at q;omega
  have evk:∀{q:T3} {e:EM},eH h4 q e->(∀k,blk q.1 k\/blk q.2.1 k->h.n+2<=k/\¬blk lv k)->eH (h6.put h.n (.rw [l6])) q e:=fun {q e} a hs=>by
   refine (((a.up kp).keep a2 (fun k q1 q2=>(hs k q1).2 q2)).keep kq (fun k q1 q2=> ?_))
   have:=(hs k q1).1
   have q2:k=h.n:=q2
   omega
  have hfk:∀k,blk kv k\/blk vv k->h.n+2<=k/\k < h6.n/\¬blk l6 k:=fun k hk=>by
   have h1:hh.n<=k:=by rcases hk with hk|hk;exact bkv k hk;exact bvv k hk
   have h2:k < h4.n:=by rcases hk with hk|hk;exact okv.lt k hk;exact ovv.lt k hk
   refine ⟨by omega,by omega,fun q=> ?_⟩
   rcases a3 k q with q|q
   ·have:=lvn k q;omega
   ·simp only [bJ] at q;omega
  rw [show (((k+1:Nat):Int) - 1)=(k:Int) by omega]
  refine aj k (Nat.lt_succ_self _) ⟨done++[⟨key,val,gn⟩],rst,l6,_,tri++[(kv,vv,gn)],by rw [List.length_append,List.length_singleton];omega,(((K.own k4 (fun k q=>by have q:k=h.n+1:=q;omega)).and kp).own a2 (fun k q=>by have:=lo k q;omega)).own kq (fun k q=>by have q:k=h.n:=q;omega),by simp only [qZ];omega,b6.put, ?_, ?_, ?_,by simp [htl], ?_,lo6, ?_, ?_,rfl⟩
  ·exact ((rd4.push _).keep a2 (fun bv h1 j h2 h3=>by
    obtain ⟨_,bv',g1,_,_,g4⟩:=rd4.push (.rw [kv,vv, .bool gn])
    rw [h1] at g1
    cases g1
    have:=g4 j h2
    have:=lo j h3
    omega) (fun q=>by have:=lo _ q;omega)).put _ (by omega) (Nat.le_refl _)
  ·have:=JB hpe
   omega
  ·have:=a1.keep kq (fun k q1 q2=>by have:=lo6 k q1;have q2:k=h.n:=q2;omega)
   rw [List.length_append,List.flatMap_append]
   exact this
  ·intro i q e h1 h2
   by_cases hi:i < done.length
   ·rw [List.getElem?_append_left (by omega)] at h1
    rw [List.getElem?_append_left hi] at h2
    refine evk ((hev i q e h1 h2).keep k4 (fun k q1 q2=> ?_)) (fun k hk=> ?_)
    ·have:=(hfr q (List.mem_of_getElem? h1) k q1).1
     have q2:k=h.n+1:=q2
     omega
    ·exact ⟨(hfr q (List.mem_of_getElem? h1) k hk).1,(hfr q (List.mem_of_getElem? h1) k hk).2.2⟩
   ·have h3:=(List.getElem?_eq_some_iff.1 h2).1
    rw [List.length_append,List.length_singleton] at h3
    have h4:i=done.length:=by omega
    subst h4
    rw [List.getElem?_append_right (Nat.le_refl _),Nat.sub_self] at h2
    rw [<-htl,List.getElem?_append_right (Nat.le_refl _),Nat.sub_self] at h1
    simp at h1 h2
    subst h1 h2
    refine evk ⟨rfl,okv.rs,ovv.rs,ovv.vP⟩ (fun k hk=>⟨(hfk k hk).1,fun q=> ?_⟩)
    have:=lvn k q
    have:hh.n<=k:=by rcases hk with hk|hk;exact bkv k hk;exact bvv k hk
    omega
  ·intro q hq k hk
   rcases List.mem_append.1 hq with hq|hq
   ·have h1:=hfr q hq k hk
    refine ⟨h1.1,by simp only [qZ];omega,fun q=> ?_⟩
    rcases a3 k q with q|q
    ·exact h1.2.2 q
    ·simp only [bJ] at q;omega
   ·simp at hq
    subst hq
    exact hfk k hk
  ·rw [hp,xN hpe]
   simp [Function.comp_def]
 ·have hn0:n=0:=by omega
  subst hn0
  have ol1:=ol.one
  repeat first|refine ZE ?_|refine BV (au bx rfl rfl) ?_|refine BW (fQ bx rfl rfl ol1 (Nat.zero_lt_succ _)) ?_|refine BP ?_|refine BQ ?_
  refine Rt ?_
  show WB (lim E) (.cond (.slot 1) (.reg [.mk none .none (.eff (.store 1 (.slot 0) (.const .ae)))]) .skip) [.ptr h.n 0, .bool false] _ _
  repeat first|refine ZE ?_|refine BP ?_|refine BQ ?_
  have kq:Keep (az h.n) hh (hh.put h.n (.rw [lv])):=Keep.put _ _ _ rfl
  refine EF (l:=[lv]) (xq (l:=[]) bx.put rfl) ⟨K.own kq (fun k q=>by have q:k=h.n:=q;omega), ?_⟩
  have e1:(mZ bs).getD []=done:=by rw [hp];unfold parseN;simp
  rw [e1]
  have ef:aN hh lv done (fun k=>h.n+2<=k):=⟨tri,ol.rs,htl,hev,lo,fun q hq k hk=>(hfr q hq k hk).1⟩
  exact (ef.keep kq (fun k q1 q2=>by have q2:k=h.n:=q2;omega)).on (fun k q=>by omega)
end
def frE (bs:List UInt8):Option (List EM):=if mM ((mZ bs).getD [])=true/\dF ((mZ bs).getD [])=bs then some ((mZ bs).getD []) else none
theorem zD:∀(n:Nat) (bs:List UInt8) {l:List EM},parseN n bs=some l->l.length=n
 |0,bs,l,H=>by simp [parseN] at H;subst H;rfl
 |n+1,bs,l,H=>by
  unfold parseN at H
  split at H
  ·cases H
  ·rename_i g k v r hp
   cases hq:parseN n r with
   |none=>rw [hq] at H;cases H
   |some l'=>
    rw [hq] at H
    simp at H
    subst H
    rw [List.length_cons,zD n r hq]
theorem Oh (bs:List UInt8):((mZ bs).getD []).length<=65535:=by
 unfold mZ
 split
 ·simp
 ·have:=Ry bs
  cases h:parseN (be (bs.take 2)) (bs.drop 2) with
  |none=>simp
  |some l=>have:=zD _ _ h;simp only [Option.getD_some];omega
section
variable {X:Type} {e:En} {t:List AV} {h:Hp X}
theorem sZ {q:Eq} {x y:Od} {a b:List UInt8} (hx:x.ev e t= .str a) (hy:y.ev e t= .str b) (hab:a=b):(Mv.bin .neq q x y).ev e t h=some (.bool false):=by
 rw [Q5 hx hy,hab];simp
theorem EG {q:Eq} {x y:Od} {a b:List UInt8} (hx:x.ev e t= .str a) (hy:y.ev e t= .str b) (hab:a≠b):(Mv.bin .neq q x y).ev e t h=some (.bool true):=by
 rw [Q5 hx hy,beq_false_of_ne hab];rfl
end
structure WaN {X:Type} (E:Nat->Option (Ent X)):Prop where
 entries:E 122=some (.bc jW)
 rd:aaT E
 bt:WaB E
section
variable {X:Type} {E:Nat->Option (Ent X)}
def Wl (h:Hp X) (o:Option (List EM)) (r:AV) (h':Hp X):Prop:=Keep NoB h h'/\match o with
 |some l=>∃w,r= .tup [w, .int .i64 0]/\aN h' w l (fun k=>h.n<=k)
 |none=>r= .tup [.ae, .int .i64 12]
theorem EH (hE:∀f e,E f=some e->e.plain) (T:WaN E) {h:Hp X} {v:AV} {bs:List UInt8} (hr:RS h 1 v bs.length (bs.map ub)) (hv:v≠ .bV) (hb:bs.length<=1099511627776):
  WF (lim E) 122 [v] h fun r h'=>Wl h (frE bs) r h':=by
 refine aC hE T.entries rfl ?_
 simp only [jW,mvE,mvS,clE,efE,ceS,ceE,csE,faE,nlE,ldE,lnE,exE,eV,sL,kI,List.map,getS]
 repeat first|refine ZA ?_|refine BP ?_|refine BQ ?_
 refine ag rfl ((Rz hE T.rd hr hv hb).mono fun w h1 ⟨k1,e1⟩=> ?_)
 have hll:=Oh bs
 unfold frE
 generalize (mZ bs).getD []=l at*
 have hr1:=hr.up k1
 repeat first|refine ZA ?_|refine BP ?_|refine BQ ?_
 refine ag rfl ((Ho hE T.bt e1.Wj (by omega)).mono fun x h2 ⟨k2,e2⟩=> ?_)
 have K:=k1.and k2
 have e3:=e1.up k2
 have hr2:=hr1.up k2
 cases hm:mM l with
 |false=>
  rw [hm] at e2
  have e2:x= .tup [.ae, .int .i64 3]:=e2
  subst e2
  repeat first|refine ZA ?_|refine BP ?_|refine BQ ?_
  refine ⟨K, ?_⟩
  rw [if_neg (by simp)]
  rfl
 |true=>
  rw [hm] at e2
  obtain ⟨o,e2,o2,_⟩:∃o,x= .tup [o, .int .i64 0]/\OS h2 1 o (dF l).length ((dF l).map ub)/\∀k,blk o k->h1.n<=k:=e2
  subst e2
  by_cases hq:dF l=bs
  ·repeat first|refine ZA ?_|refine BV (fP rfl o2.rs) ?_|refine BV (fP rfl hr2) ?_|refine BV (sZ rfl rfl hq) ?_|refine BP ?_|refine BQ ?_
   refine ⟨K, ?_⟩
   rw [if_pos (by simp [hq])]
   exact ⟨w,rfl,e3⟩
  ·repeat first|refine ZA ?_|refine BV (fP rfl o2.rs) ?_|refine BV (fP rfl hr2) ?_|refine BV (EG rfl rfl hq) ?_|refine BP ?_|refine BQ ?_
   refine ⟨K, ?_⟩
   rw [if_neg (fun q=>hq q.2)]
   rfl
end
section
variable {X:Type} {h h':Hp X}
theorem eH.lt {q:T3} {e:EM} (a:eH h q e):∀k,blk q.1 k\/blk q.2.1 k->k < h.n:=fun k hk=>by rcases hk with hk|hk;exact a.key.lt k hk;exact a.val.lt k hk
theorem aN.lt {v:AV} {l:List EM} {F:Nat->Prop} (a:aN h v l F):aN h v l (fun k=>F k/\k < h.n):=by
 obtain ⟨tri,h1,h2,h3,h4,h5⟩:=a.out
 refine ⟨tri,h1,h2,h3,fun k q=>⟨h4 k q,h1.lt k q⟩,fun q hq k hk=>⟨h5 q hq k hk, ?_⟩⟩
 obtain ⟨i,hi⟩:=List.mem_iff_getElem?.1 hq
 have hil:=(List.getElem?_eq_some_iff.1 hi).1
 exact (h3 i q _ hi (List.getElem?_eq_getElem (by omega))).lt k hk
structure OE (h:Hp X) (v:AV) (l:List EM) (lo:Nat) (F:Nat->Prop):Prop where
 out:∃tri:List T3,OS h 3 v l.length (tri.flatMap f3)/\tri.length=l.length/\(∀(i:Nat) q e,tri[i]?=some q->l[i]?=some e->eH h q e)/\(∀k,blk v k->lo<=k)/\∀q∈tri,∀k,blk q.1 k\/blk q.2.1 k->F k/\¬blk v k
theorem OE.nil {lo:Nat} {F:Nat->Prop}:OE h .ae [] lo F:=⟨[],⟨rfl,rfl⟩,rfl,fun i q e q1=>by simp at q1,fun k q=>q.elim,fun q hq=>by simp at hq⟩
theorem OE.keep {S:Nat->Prop} {v:AV} {l:List EM} {lo:Nat} {F:Nat->Prop} (a:OE h v l lo F) (k:Keep S h h') (hs:∀k,S k->k < h.n->False):OE h' v l lo F:=by
 obtain ⟨tri,h1,h2,h3,h4,h5⟩:=a.out
 exact ⟨tri,h1.keep k (fun j hj q=>hs j q (h1.lt j hj)),h2,fun i q e q1 q2=>(h3 i q e q1 q2).keep k (fun j hj q=>hs j q ((h3 i _ e q1 q2).lt j hj)),h4,h5⟩
theorem OE.up {v:AV} {l:List EM} {lo:Nat} {F:Nat->Prop} (a:OE h v l lo F) (k:Keep NoB h h'):OE h' v l lo F:=a.keep k (fun _ q _=>q.elim)
theorem OE.lt {v:AV} {l:List EM} {lo:Nat} {F:Nat->Prop} (a:OE h v l lo F):∀k,blk v k->k < h.n:=by obtain ⟨_,h1,_⟩:=a.out;exact h1.lt
theorem OE.lo {v:AV} {l:List EM} {lo:Nat} {F:Nat->Prop} (a:OE h v l lo F):∀k,blk v k->lo<=k:=by obtain ⟨_,_,_,_,h4,_⟩:=a.out;exact h4
theorem OE.one {v:AV} {l:List EM} {lo:Nat} {F:Nat->Prop} (a:OE h v l lo F):cellsOf v=some [v]/\v.one=true:=by obtain ⟨_,h1,_⟩:=a.out;exact h1.one
theorem OE.oM {v:AV} {l:List EM} {lo:Nat} {F:Nat->Prop} (a:OE h v l lo F):aN h v l (fun k=>F k\/lo<=k):=by
 obtain ⟨tri,h1,h2,h3,h4,h5⟩:=a.out
 exact ⟨tri,h1.rs,h2,h3,fun k q=> .inr (h4 k q),fun q hq k hk=> .inl (h5 q hq k hk).1⟩
theorem OE.next {v:AV} {l:List EM} {lo:Nat} {F:Nat->Prop} {q:T3} {e:EM} (a:OE h v l lo F) (hv:eH h q e) (hn:∀k,blk q.1 k\/blk q.2.1 k->F k/\¬blk v k) (hlo:lo<=h.n):
  ∃cells,OS (h.push (.rw (f3 q))) 3 v l.length cells/\RS (h.push (.rw (f3 q))) 3 (.slice 3 h.n 0 1 (some 1)) 1 (f3 q)/\∀v' h',OS h' 3 v' (l.length+1) (cells++f3 q)->Keep (blk v) (h.push (.rw (f3 q))) h'->(∀g,blk v' g->blk v g\/(h.push (.rw (f3 q))).n<=g)->OE h' v' (l++[e]) lo F/\Keep (blk v) h h':=by
 obtain ⟨tri,h1,h2,h3,h4,h5⟩:=a.out
 have kp:Keep NoB h (h.push (.rw (f3 q))):=Keep.push _ _ _
 refine ⟨_,h1.up kp,bH (n:=1) (z:=3) rfl,fun v' h' a1 a2 a3=>⟨⟨tri++[q], ?_,by simp [h2], ?_, ?_, ?_⟩,kp.any.trans a2 (fun _ _ q=>q)⟩⟩
 ·rw [List.length_append,List.flatMap_append]
  exact a1
 ·intro i r x q1 q2
  by_cases hi:i < l.length
  ·rw [List.getElem?_append_left (by omega)] at q1
   rw [List.getElem?_append_left hi] at q2
   exact ((h3 i r x q1 q2).up kp).keep a2 (fun k hk=>(h5 r (List.mem_of_getElem? q1) k hk).2)
  ·have h6:=(List.getElem?_eq_some_iff.1 q2).1
   rw [List.length_append,List.length_singleton] at h6
   have h7:i=l.length:=by omega
   subst h7
   rw [List.getElem?_append_right (Nat.le_refl _),Nat.sub_self] at q2
   rw [<-h2,List.getElem?_append_right (Nat.le_refl _),Nat.sub_self] at q1
   simp at q1 q2
   subst q1 q2
   exact (hv.up kp).keep a2 (fun k hk=>(hn k hk).2)
 ·intro k hk
  rcases a3 k hk with hk|hk
  ·exact h4 k hk
  ·simp only [bJ] at hk;omega
 ·intro r hr k hk
  have hlt:k < h.n/\F k/\¬blk v k:=by
   rcases List.mem_append.1 hr with hr|hr
   ·obtain ⟨i,hi⟩:=List.mem_iff_getElem?.1 hr
    have hil:=(List.getElem?_eq_some_iff.1 hi).1
    exact ⟨(h3 i r _ hi (List.getElem?_eq_getElem (by omega))).lt k hk,h5 r hr k hk⟩
   ·simp at hr
    subst hr
    exact ⟨hv.lt k hk,hn k hk⟩
  refine ⟨hlt.2.1,fun q6=> ?_⟩
  rcases a3 k q6 with q|q
  ·exact hlt.2.2 q
  ·simp only [bJ] at q;omega
structure nG (h:Hp X) (v:AV) (ls:List (List EM)) (F:Nat->Prop):Prop where
 out:∃cells,RS h 1 v ls.length cells/\(∀k,blk v k->F k)/\∀(i:Nat) l,ls[i]?=some l->∃c,cells[i]?=some c/\aN h c l F
theorem nG.keep {S F:Nat->Prop} {v:AV} {ls:List (List EM)} (a:nG h v ls F) (k:Keep S h h') (hs:∀k,F k->¬S k):nG h' v ls F:=by
 obtain ⟨cells,h1,h2,h3⟩:=a.out
 refine ⟨cells,h1.keep k (fun j hj=>hs j (h2 j hj)),h2,fun i l hi=> ?_⟩
 obtain ⟨c,h4,h5⟩:=h3 i l hi
 exact ⟨c,h4,h5.keep k hs⟩
theorem nG.up {F:Nat->Prop} {v:AV} {ls:List (List EM)} (a:nG h v ls F) (k:Keep NoB h h'):nG h' v ls F:=a.keep k (fun _ _ q=>q)
theorem nG.on {F G:Nat->Prop} {v:AV} {ls:List (List EM)} (a:nG h v ls F) (hs:∀k,F k->G k):nG h v ls G:=by
 obtain ⟨cells,h1,h2,h3⟩:=a.out
 refine ⟨cells,h1,fun k q=>hs k (h2 k q),fun i l hi=> ?_⟩
 obtain ⟨c,h4,h5⟩:=h3 i l hi
 exact ⟨c,h4,h5.on hs⟩
theorem nG.lt {F:Nat->Prop} {v:AV} {ls:List (List EM)} (a:nG h v ls F):nG h v ls (fun k=>F k/\k < h.n):=by
 obtain ⟨cells,h1,h2,h3⟩:=a.out
 refine ⟨cells,h1,fun k q=>⟨h2 k q,h1.lt k q⟩,fun i l hi=> ?_⟩
 obtain ⟨c,h4,h5⟩:=h3 i l hi
 exact ⟨c,h4,h5.lt⟩
structure OB (h:Hp X) (v:AV) (ls:List (List EM)) (lo:Nat) (F:Nat->Prop):Prop where
 out:∃cells,OS h 1 v ls.length cells/\(∀k,blk v k->lo<=k)/\∀(i:Nat) l,ls[i]?=some l->∃c,cells[i]?=some c/\aN h c l (fun k=>F k/\¬blk v k)
theorem OB.nil {lo:Nat} {F:Nat->Prop}:OB h .ae [] lo F:=⟨[],⟨rfl,rfl⟩,fun k q=>q.elim,fun i l q=>by simp at q⟩
theorem OB.keep {S F:Nat->Prop} {v:AV} {ls:List (List EM)} {lo:Nat} (a:OB h v ls lo F) (k:Keep S h h') (hv:∀k,blk v k->¬S k) (hs:∀k,F k->k < h.n->¬S k):OB h' v ls lo F:=by
 obtain ⟨cells,h1,h2,h3⟩:=a.out
 refine ⟨cells,h1.keep k hv,h2,fun i l hi=> ?_⟩
 obtain ⟨c,h4,h5⟩:=h3 i l hi
 exact ⟨c,h4,(h5.lt.keep k (fun j hj=>hs j hj.1.1 hj.2)).on (fun _ q=>q.1)⟩
theorem OB.up {F:Nat->Prop} {v:AV} {ls:List (List EM)} {lo:Nat} (a:OB h v ls lo F) (k:Keep NoB h h'):OB h' v ls lo F:=a.keep k (fun _ _ q=>q) (fun _ _ _ q=>q)
theorem OB.rs {F:Nat->Prop} {v:AV} {ls:List (List EM)} {lo:Nat} (a:OB h v ls lo F):∃cells,RS h 1 v ls.length cells:=by obtain ⟨_,h1,_⟩:=a.out;exact ⟨_,h1.rs⟩
theorem OB.lo {F:Nat->Prop} {v:AV} {ls:List (List EM)} {lo:Nat} (a:OB h v ls lo F):∀k,blk v k->lo<=k:=by obtain ⟨_,_,h2,_⟩:=a.out;exact h2
theorem OB.lt {F:Nat->Prop} {v:AV} {ls:List (List EM)} {lo:Nat} (a:OB h v ls lo F):∀k,blk v k->k < h.n:=by obtain ⟨_,h1,_⟩:=a.out;exact h1.lt
theorem OB.Zr {F G:Nat->Prop} {v:AV} {ls:List (List EM)} {lo:Nat} (a:OB h v ls lo F) (h1:∀k,lo<=k->k < h.n->G k) (h2:∀k,F k->G k):nG h v ls G:=by
 obtain ⟨cells,g1,g2,g3⟩:=a.out
 refine ⟨cells,g1.rs,fun k q=>h1 k (g2 k q) (g1.lt k q),fun i l hi=> ?_⟩
 obtain ⟨c,h4,h5⟩:=g3 i l hi
 exact ⟨c,h4,h5.on (fun k q=>h2 k q.1)⟩
theorem aN.one {v:AV} {l:List EM} {F:Nat->Prop} (a:aN h v l F):cellsOf v=some [v]/\v.one=true:=by obtain ⟨_,h1,_⟩:=a.out;exact h1.one
theorem OB.next {v c:AV} {ls:List (List EM)} {l:List EM} {lo:Nat} {F:Nat->Prop} (a:OB h v ls lo F) (hv:aN h c l (fun k=>F k/\¬blk v k)) (hlo:lo<=h.n):
  ∃cells,OS (h.push (.rw [c])) 1 v ls.length cells/\RS (h.push (.rw [c])) 1 (.slice 1 h.n 0 1 (some 1)) 1 [c]/\∀v' h',OS h' 1 v' (ls.length+1) (cells++[c])->Keep (blk v) (h.push (.rw [c])) h'->(∀g,blk v' g->blk v g\/(h.push (.rw [c])).n<=g)->OB h' v' (ls++[l]) lo F/\Keep (blk v) h h':=by
 obtain ⟨cells,h1,h4,h3⟩:=a.out
 have kp:Keep NoB h (h.push (.rw [c])):=Keep.push _ _ _
 have hll:=h1.len
 refine ⟨_,h1.up kp,bH (n:=1) (z:=1) rfl,fun v' h' a1 a2 a3=>⟨⟨cells++[c], ?_, ?_, ?_⟩,kp.any.trans a2 (fun _ _ q=>q)⟩⟩
 ·rw [List.length_append]
  exact a1
 ·intro k hk
  rcases a3 k hk with hk|hk
  ·exact h4 k hk
  ·simp only [bJ] at hk;omega
 ·have mv:∀{c:AV} {l:List EM},aN h c l (fun k=>F k/\¬blk v k)->aN h' c l (fun k=>F k/\¬blk v' k):=fun {c l} q=>by
   refine ((q.lt.up kp).keep a2 (fun k hk=>hk.1.2)).on (fun k hk=>⟨hk.1.1,fun q=> ?_⟩)
   rcases a3 k q with q|q
   ·exact hk.1.2 q
   ·have:=hk.2;simp only [bJ] at q;omega
  intro i x q2
  by_cases hi:i < ls.length
  ·rw [List.getElem?_append_left hi] at q2
   obtain ⟨d,h6,h7⟩:=h3 i x q2
   exact ⟨d,by rw [List.getElem?_append_left (by omega)];exact h6,mv h7⟩
  ·have h6:=(List.getElem?_eq_some_iff.1 q2).1
   rw [List.length_append,List.length_singleton] at h6
   have h7:i=ls.length:=by omega
   subst h7
   rw [List.getElem?_append_right (Nat.le_refl _),Nat.sub_self] at q2
   simp at q2
   subst q2
   refine ⟨c, ?_,mv hv⟩
   rw [List.getElem?_append_right (by omega),show ls.length - cells.length=0 by omega]
   rfl
end
end Am
end Go.Proofs.YtbnkdnlfdofepaaGreat
