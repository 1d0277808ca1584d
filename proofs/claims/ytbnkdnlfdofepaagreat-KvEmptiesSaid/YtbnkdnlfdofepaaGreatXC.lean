/- Package mem: New, Len, place, Get, Range, All. Package mem: Get, Range, All. Package table: place, Get, Range, All. Package merge: head, pass, first, Join, Live. Package merge: first, Join, Live. Package merge: Join, Live. Package mem: Put. -/
import Derived.Test.YtbnkdnlfdofepaaGreatXB
import Derived.Test.YtbnkdnlfdofepaaGreatMJ
import Derived.Test.YtbnkdnlfdofepaaGreatMM
set_option linter.unusedVariables false
set_option linter.unusedSimpArgs false
namespace Go.Proofs.YtbnkdnlfdofepaaGreat
namespace Am
open Go.RowKit
set_option maxRecDepth 100000
def ku:BF:=⟨3,[0],(.seq (.reg [mvS 0 (.mv (.const .bU))]) (.seq (.reg [mvE 1 (.bld [.ae] []),efE 2 (.box (eV 1)),csE 0 2]) .ret)),[.slot (sL 0)]⟩
def kC:BF:=⟨8,[0,2],(.seq (.reg [mvS 1 (.mv (.const (.int .i64 0)))]) (.seq (.reg [ceS 3 0,nlE 4 3,faE 5 0 4,ldE 6 5,lnE 7 6,csE 1 7]) .ret)),[.slot (sL 1)]⟩
def gY:BF:=⟨56,[0,1,4,5,6,7,8,16,30],(.seq (.reg [mvS 2 (.mv (.const (.int .i64 0))),mvS 3 (.mv (.const (.bool false)))]) (.seq (.iC [(ceS 9 0,[]),(nlE 10 9,[]),(faE 11 0 10,[]),(ldE 12 11,[]),(lnE 13 12,[]),(mvS 4 (.mv (.const (.int .i64 0))),[]),(csE 5 13,[])]) (.seq (.block 0 (.loop (.seq (.seq (.reg [ceS 14 4,ceS 15 5,mvS 7 (.bin .lss .no (eV 14) (eV 15))]) (.cond (sL 7) .skip (.exit 0))) (.block 1 (.seq (.reg [ceS 17 4,ceS 18 5,mvE 19 (.bin .add .no (eV 17) (eV 18)),mvE 20 (.bin .quo .no (eV 19) (.const (.int .i64 2))),csE 6 20]) (.seq (.reg [ceS 21 0,nlE 22 21,faE 23 0 22,ldE 24 23,ceS 25 6,mvE 26 (.aP 3 (eV 24) (eV 25)),faE 27 0 26,ldE 28 27,ceS 29 1, .mk none (.slot 8) (.call 147 [eV 28,eV 29])]) (.cond (sL 8) (.reg [ceS 31 6,mvE 32 (.bin .add .no (eV 31) (.const (.int .i64 1))),csE 4 32]) (.reg [ceS 33 6,csE 5 33])))))))) (.seq (.iC [(ceS 34 4,[]),(ceS 35 4,[]),(ceS 36 0,[]),(nlE 37 36,[]),(faE 38 0 37,[]),(ldE 39 38,[]),(lnE 40 39,[]),(mvE 41 (.bin .lss .no (eV 35) (eV 40)),[]),(ceE 42 41,[]),(.mk (some ((eV 42),true)) (.env 43) (.mov (.mv (sL 0))),[]),(.mk (some ((eV 42),true)) (.env 44) (.mov (.FP (eV 43))),[]),(.mk (some ((eV 42),true)) (.env 45) (.mov (.aG 0 (eV 44))),[]),(.mk (some ((eV 42),true)) (.env 46) (.mov (.ld1 (eV 45))),[]),(.mk (some ((eV 42),true)) (.env 47) (.mov (.mv (sL 4))),[]),(.mk (some ((eV 42),true)) (.env 48) (.mov (.aP 3 (eV 46) (eV 47))),[]),(.mk (some ((eV 42),true)) (.env 49) (.mov (.aG 0 (eV 48))),[]),(.mk (some ((eV 42),true)) (.env 50) (.mov (.ld1 (eV 49))),[]),(.mk (some ((eV 42),true)) (.env 51) (.mov (.b2s (eV 50))),[]),(.mk (some ((eV 42),true)) (.env 52) (.mov (.mv (sL 1))),[]),(.mk (some ((eV 42),true)) (.env 53) (.mov (.b2s (eV 52))),[]),(.mk (some ((eV 42),true)) (.env 54) (.mov (.bin .eql .no (eV 51) (eV 53))),[]),(mvE 55 (.pick (eV 42) (eV 54) (.const (.bool false))),[]),(csE 2 34,[]),(csE 3 55,[])]) .ret)))),[.slot (sL 2), .slot (sL 3)]⟩
def kD:BF:=⟨25,[0,1,4,5,6,7,15],(.seq (.reg [.mk none (.slot 2) (.eff (.alloc [.ae, .ae,(.bool false)])),mvS 3 (.mv (.const (.bool false)))]) (.seq (.reg [ceS 9 0,ceS 10 1,clE 11 109 [eV 9,eV 10],ceE 8 11,exE 12 0 8,exE 13 1 8,csE 4 12,csE 5 13]) (.seq (.seq (.reg [ceS 14 5,mvS 6 (.jd (eV 14))]) (.cond (sL 6) (.seq (.reg [mvE 16 (.bld [.ae, .ae,(.bool false)] []), .mk none .none (.eff (.store 3 (sL 2) (eV 16))),mvS 3 (.mv (.const (.bool false)))]) .ret) .skip)) (.seq (.reg [ceS 17 0,nlE 18 17,faE 19 0 18,ldE 20 19,ceS 21 4,mvE 22 (.aP 3 (eV 20) (eV 21)),mvE 23 (.ldn 3 (eV 22)),clE 24 110 [eV 23], .mk none .none (.eff (.store 3 (sL 2) (eV 24))),mvS 3 (.mv (.const (.bool true)))]) .ret)))),[.fG 3 (sL 2), .slot (sL 3)]⟩
def gZ:BF:=⟨48,[0,1,2,6,7,8,9,18,33],(.seq (.reg [mvS 3 (.mv (.const .ae))]) (.seq (.reg [ceS 11 0,nlE 12 11,faE 13 0 12,ldE 14 13,lnE 15 14,csE 4 15]) (.seq (.seq (.reg [ceS 16 2,lnE 17 16,mvS 7 (.bin .gtr .no (eV 17) (.const (.int .i64 0)))]) (.cond (sL 7) (.reg [ceS 20 0,ceS 21 2,clE 22 109 [eV 20,eV 21],ceE 19 22,exE 23 0 19,exE 24 1 19,csE 4 23]) .skip)) (.seq (.reg [mvS 5 (.mv (.const .ae))]) (.seq (.reg [ceS 26 0,ceS 27 1,clE 28 109 [eV 26,eV 27],ceE 25 28,exE 29 0 25,exE 30 1 25,csE 6 29,ceE 10 30]) (.seq (.block 0 (.loop (.seq (.seq (.reg [ceS 31 6,ceS 32 4,mvS 8 (.bin .lss .no (eV 31) (eV 32))]) (.cond (sL 8) .skip (.exit 0))) (.seq (.block 1 (.reg [ceS 36 5,ceS 37 0,nlE 38 37,faE 39 0 38,ldE 40 39,ceS 41 6,mvE 42 (.aP 3 (eV 40) (eV 41)),mvE 43 (.ldn 3 (eV 42)),clE 44 110 [eV 43],efE 45 (.aF 3 1 [.ae, .ae,(.bool false)] [(0,3,(eV 44))]),efE 46 (.append 3 56 (eV 36) (eV 45)),csE 5 46])) (.reg [ceS 34 6,mvE 35 (.bin .add .no (eV 34) (.const (.int .i64 1))),csE 6 35]))))) (.seq (.reg [ceS 47 5,csE 3 47]) .ret))))))),[.slot (sL 3)]⟩
def kE:BF:=⟨5,[0,2],(.seq (.reg [mvS 1 (.mv (.const .ae))]) (.seq (.reg [ceS 3 0,clE 4 90 [eV 3,(.const .ae),(.const .ae)],csE 1 4]) .ret)),[.slot (sL 1)]⟩
section
variable {X:Type} {e:En} {t:List AV} {h:Hp X}
theorem ZL {q:Eq} {x y:Od} {k:IntKind} {r:Nat} (hx:x.ev e t= .int k (r:Int)) (hy:y.ev e t= .int k 2) (hk:k= .i64\/k= .u64) (hr:r < 4611686018427387904):(Mv.bin .quo q x y).ev e t h=some (.int k ((r / 2:Nat):Int)):=by
 have e1:(r:Int).tdiv 2=((r / 2:Nat):Int):=rfl
 have e2:wr k ((r / 2:Nat):Int)=((r / 2:Nat):Int):=by
  rcases hk with rfl|rfl
  ·exact NQ (by omega)
  ·have e3:((r / 2:Nat):Int) % 2^64=((r / 2:Nat):Int):=by omega
   simp only [wr,IntKind.wrap,IntKind.signed,IntKind.bits,e3]
   simp
 simp only [Mv.ev,hx,hy,Am.bin,AV.onInt,isShift,intOp]
 simp only [Bool.false_or,decide_true,cond_true]
 rw [if_neg (by decide),e1,e2]
theorem yH {D:Dp X} {l:List St1} {k f:Nat} {Q:R X->Prop} {cs:List AV} {x:Od} {xs:List Od} {args:List AV} (hx:x.ev e t= .meth f cs) (ha:(xs.map fun x=>x.ev e t)=args) (H:WF D f (cs++args) h fun v h'=>WR D l ((k,v)::e) t h' Q):WR D (.mk none (.env k) (.qO x xs)::l) e t h Q:=by
 obtain ⟨v,h',hf,⟨r,h1,h2,h3⟩⟩:=H.out
 subst ha
 refine ⟨⟨r, ?_,h2,h3⟩⟩
 simp only [runRg,gdv,gdR,Op1.run,hx,hf,stepR]
 exact h1
end
structure PlP (l:List EM) (key:List UInt8) (i:Nat):Prop where
 le:i<=l.length
 lo:∀(k:Nat) x,l[k]?=some x->k < i->bl x.key key=true
 hi:∀(k:Nat) x,l[k]?=some x->i<=k->bl x.key key=false
theorem PlP.take {l:List EM} {key:List UInt8} {i:Nat} (hl:dI l) (p:PlP l key i):l.take i=l.filter (fun x=>bl x.key key)/\l.drop i=l.filter (fun x=> !bl x.key key):=
 hl.cut key i p.le (fun k hk hki=>p.lo k _ (List.getElem?_eq_getElem hk) hki) (fun k hk hki=>p.hi k _ (List.getElem?_eq_getElem hk) hki)
theorem EY {l:List EM} (hl:dI l) {i j:Nat} {x y:EM} (hx:l[i]?=some x) (hy:l[j]?=some y) (hij:i < j):bl x.key y.key=true:=by
 obtain ⟨h1,rfl⟩:=List.getElem?_eq_some_iff.1 hx
 obtain ⟨h2,rfl⟩:=List.getElem?_eq_some_iff.1 hy
 exact List.pairwise_iff_getElem.1 hl i j h1 h2 hij
theorem Yg {l:List EM} (hl:dI l) {key:List UInt8} {m:Nat} {x:EM} (hx:l[m]?=some x) (hb:bl x.key key=true):∀(k:Nat) y,l[k]?=some y->k < m+1->bl y.key key=true:=fun k y hy hk=>by
 rcases Nat.lt_or_ge k m with h|h
 ·exact jT (EY hl hy hx h) hb
 ·have:k=m:=by omega
  subst this;rw [hx] at hy;cases hy;exact hb
theorem Yh {l:List EM} (hl:dI l) {key:List UInt8} {m:Nat} {x:EM} (hx:l[m]?=some x) (hb:bl x.key key=false):∀(k:Nat) y,l[k]?=some y->m<=k->bl y.key key=false:=fun k y hy hk=>by
 rcases Nat.lt_or_ge m k with h|h
 ·cases hc:bl y.key key with
  |false=>rfl
  |true=>rw [jT (EY hl hx hy h) hc] at hb;cases hb
 ·have:k=m:=by omega
  subst this;rw [hx] at hy;cases hy;exact hb
def qF (l:List EM) (key:List UInt8) (i:Nat):Bool:=match l[i]? with|some x=>x.key==key|none=>false
theorem zS {l:List EM} (hl:dI l) {key:List UInt8} {i:Nat} (p:PlP l key i):aO EM.key l key=if qF l key i then l[i]? else none:=by
 unfold qF
 cases hx:l[i]? with
 |none=>
  have hn:=List.getElem?_eq_none_iff.1 hx
  simp only [Bool.false_eq_true,if_false]
  rw [get_none]
  intro y hy e
  obtain ⟨k,hk⟩:=List.mem_iff_getElem?.1 hy
  have:=(List.getElem?_eq_some_iff.1 hk).1
  have:=p.lo k y hk (by omega)
  rw [e,dZ] at this;cases this
 |some x=>
  simp only
  by_cases e:x.key=key
  ·rw [if_pos (by simp [e])]
   exact (ay.sO hl).2 ⟨List.mem_of_getElem? hx,e⟩
  ·rw [if_neg (by simp [e]),get_none]
   intro y hy e2
   obtain ⟨k,hk⟩:=List.mem_iff_getElem?.1 hy
   rcases Nat.lt_trichotomy k i with h|h|h
   ·have:=p.lo k y hk h
    rw [e2,dZ] at this;cases this
   ·subst h;rw [hx] at hk;cases hk;exact e e2
   ·have h1:=EY hl hx hk h
    have h2:=p.hi i x hx (Nat.le_refl _)
    rw [<-e2,h1] at h2;cases h2
structure KmT (E:Nat->Option (Ent MD)):Prop where
 less:E 147=some (.bc iq)
 Ou:E 170=some (.nat n_bcmp)
 clone:E 112=some (.bc dD)
 own:E 110=some (.bc jo)
 new:E 72=some (.bc ku)
 len:E 78=some (.bc kC)
 place:E 109=some (.bc gY)
 get:E 67=some (.bc kD)
 range:E 90=some (.bc gZ)
 all:E 79=some (.bc kE)
structure iG (h:Hp MD) (g:Nat) (l:List EM) (F:Nat->Prop):Prop where
 out:∃v,Bx h g [v]/\aN h v l F
theorem iG.keep {S F:Nat->Prop} {h h':Hp MD} {g:Nat} {l:List EM} (a:iG h g l F) (k:Keep S h h') (hg:¬S g) (hs:∀k,F k->¬S k):iG h' g l F:=by
 obtain ⟨v,b,e⟩:=a.out
 exact ⟨v,b.keep k hg,e.keep k hs⟩
theorem iG.up {F:Nat->Prop} {h h':Hp MD} {g:Nat} {l:List EM} (a:iG h g l F) (k:Keep NoB h h'):iG h' g l F:=a.keep k (fun q=>q) (fun _ _ q=>q)
structure kU (l:List EM):Prop where
 ris:dI l
 len:l.length<=1000000
 sz:∀e∈l,1<=e.key.length/\e.key.length<=255/\e.val.length<=4095
section
variable {E:Nat->Option (Ent MD)}
theorem MI (hE:∀f e,E f=some e->e.plain) (T:KmT E) {h:Hp MD}:WF (lim E) 72 [] h fun r h'=>r= .ptr h.n 0/\Bx h' h.n [.ae]/\Keep NoB h h':=by
 refine aC hE T.new rfl ?_
 simp only [ku,mvE,mvS,clE,efE,ceS,ceE,csE,faE,nlE,ldE,lnE,exE,eV,sL,kI,List.map,getS]
 have b:Bx (h.push (.rw [.ae])) h.n [AV.ae]:=aH
 have k:Keep NoB h (h.push (.rw [.ae])):=Keep.push _ _ _
 repeat first|refine ZA ?_|refine BW (iD rfl rfl) ?_|refine BP ?_|refine BQ ?_
 exact ⟨rfl,b,k⟩
theorem Dj (hE:∀f e,E f=some e->e.plain) (T:KmT E) {h:Hp MD} {g:Nat} {l:List EM} {F:Nat->Prop} (m:iG h g l F):WF (lim E) 78 [.ptr g 0] h fun r h'=>h'=h/\r= .int .i64 l.length:=by
 obtain ⟨v,b,en⟩:=m.out
 obtain ⟨tri,hr,_⟩:=en.out
 refine aC hE T.len rfl ?_
 simp only [kC,mvE,mvS,clE,efE,ceS,ceE,csE,faE,nlE,ldE,lnE,exE,eV,sL,kI,List.map,getS]
 repeat first|refine ZA ?_|refine BV (ak rfl) ?_|refine BV (au b rfl rfl) ?_|refine BV (hr.ah (by rfl)) ?_|refine BP ?_|refine BQ ?_
 exact ⟨rfl,rfl⟩
set_option maxHeartbeats 4000000 in
theorem tK (hE:∀f e,E f=some e->e.plain) (T:KmT E) {h:Hp MD} {g:Nat} {l:List EM} {F:Nat->Prop} (m:iG h g l F) (hl:kU l) {kv:AV} {key:List UInt8} (hk:RS h 1 kv key.length (key.map ub)):
  WF (lim E) 109 [.ptr g 0,kv] h fun r h'=>h'=h/\∃i,PlP l key i/\r= .tup [.int .i64 i, .bool (qF l key i)]:=by
 obtain ⟨v,b,en⟩:=m.out
 obtain ⟨tri,hr,htl,hq,_⟩:=en.out
 refine aC hE T.place rfl ?_
 simp only [gY,mvE,mvS,clE,efE,ceS,ceE,csE,faE,nlE,ldE,lnE,exE,eV,sL,kI,List.map,getS]
 have hln:=hl.len
 repeat first|refine ZI ?_|refine CB (ak rfl) ?_|refine CB (au b rfl rfl) ?_|refine CB (hr.ah (by rfl)) ?_|refine BV (ak rfl) ?_|refine BV (au b rfl rfl) ?_|refine BV (hr.ah (by rfl)) ?_|refine BP ?_|refine BQ ?_|refine CC ?_
 refine aQ (fun n t hh=>∃(lo hi:Nat) (s6 s7 s8:AV),hh=h/\lo<=hi/\hi<=l.length/\(∀(k:Nat) x,l[k]?=some x->k < lo->bl x.key key=true)/\(∀(k:Nat) x,l[k]?=some x->hi<=k->bl x.key key=false)/\n=hi - lo/\
  t=[.ptr g 0,kv, .int .i64 0, .bool false, .int .i64 lo, .int .i64 hi,s6,s7,s8]) ?_ l.length _ _ ⟨0,l.length,_,_,_,rfl,by omega,by omega,fun k x _ q=>by omega,fun k x hx q=>by have:=(List.getElem?_eq_some_iff.1 hx).1;omega,by omega,rfl⟩
 rintro n t hh ⟨lo,hi,s6,s7,s8,rfl,hlh,hhl,hlo,hhi,hn,rfl⟩
 by_cases hlt:lo < hi
 ·have hm1:lo<=(lo+hi) / 2:=by omega
  have hm2:(lo+hi) / 2 < hi:=by omega
  obtain ⟨x,hx⟩:∃x,l[(lo+hi) / 2]?=some x:=⟨_,List.getElem?_eq_getElem (by omega)⟩
  obtain ⟨q,hqi⟩:∃q,tri[(lo+hi) / 2]?=some q:=⟨_,List.getElem?_eq_getElem (by omega)⟩
  have hv:=hq _ q x hqi hx
  obtain ⟨ga,oa,pa,la,_⟩:=hr.at3 hqi
  have la:∀{e:En} {t:List AV} {x:Od},x.ev e t= .ptr ga oa->(Mv.ld1 x).ev e t hh=some q.1:=fun {_ _ _} hx=>la (Keep.refl NoB _) (fun _ _ q=>q) (j:=0) hx (by decide)
  have hsum:((lo:Int)+hi)=((lo+hi:Nat):Int):=by omega
  repeat first|refine ZA ?_|refine BQ ?_
  rw [hsum]
  repeat first|refine ZA ?_|refine BV (ZL rfl rfl (.inl rfl) (by omega)) ?_|refine BV (ak rfl) ?_|refine BV (au b rfl rfl) ?_|refine BV (pa rfl rfl) ?_|refine BV (la rfl) ?_|refine BP ?_|refine BQ ?_
  refine nY rfl ((tJ hE T.less T.Ou hv.key hk).mono fun r h1 ⟨e1,e2⟩=> ?_)
  subst e1 e2
  cases hb:bl x.key key with
  |true=>
   repeat first|refine ZA ?_|refine BP ?_|refine BQ ?_
   rw [show (((lo+hi) / 2:Nat):Int)+1=(((lo+hi) / 2+1:Nat):Int) by omega]
   exact aj (hi - ((lo+hi) / 2+1)) (by omega) ⟨(lo+hi) / 2+1,hi,_,_,_,rfl,by omega,hhl,Yg hl.ris hx hb,hhi,rfl,rfl⟩
  |false=>
   repeat first|refine ZA ?_|refine BP ?_|refine BQ ?_
   exact aj ((lo+hi) / 2 - lo) (by omega) ⟨lo,(lo+hi) / 2,_,_,_,rfl,by omega,by omega,hlo,Yh hl.ris hx hb,rfl,rfl⟩
 ·have e:lo=hi:=by omega
  subst e
  have P:PlP l key lo:=⟨hhl,hlo,hhi⟩
  by_cases hlt2:lo < l.length
  ·obtain ⟨x,hx⟩:∃x,l[lo]?=some x:=⟨_,List.getElem?_eq_getElem hlt2⟩
   obtain ⟨q,hqi⟩:∃q,tri[lo]?=some q:=⟨_,List.getElem?_eq_getElem (by omega)⟩
   have hv:=hq _ q x hqi hx
   obtain ⟨ga,oa,pa,la,_⟩:=hr.at3 hqi
   have la:∀{e:En} {t:List AV} {x:Od},x.ev e t= .ptr ga oa->(Mv.ld1 x).ev e t hh=some q.1:=fun {_ _ _} hx=>la (Keep.refl NoB _) (fun _ _ q=>q) (j:=0) hx (by decide)
   have hi:qF l key lo=(x.key==key):=by unfold qF;rw [hx]
   by_cases hke:x.key=key
   ·repeat first|refine ZI ?_|refine CB (ak rfl) ?_|refine CB (au b rfl rfl) ?_|refine CB (hr.ah (by rfl)) ?_|refine CB (pa rfl rfl) ?_|refine CB (la rfl) ?_|refine CB (fP rfl hv.key) ?_|refine CB (fP rfl hk) ?_|refine CB (LU rfl rfl hke) ?_|refine BV (ak rfl) ?_|refine BV (au b rfl rfl) ?_|refine BV (hr.ah (by rfl)) ?_|refine BV (pa rfl rfl) ?_|refine BV (la rfl) ?_|refine BV (fP rfl hv.key) ?_|refine BV (fP rfl hk) ?_|refine BV (LU rfl rfl hke) ?_|refine BP ?_|refine BQ ?_|refine CC ?_
    exact ⟨rfl,lo,P,by rw [hi,show (x.key==key)=true by simp [hke]];rfl⟩
   ·repeat first|refine ZI ?_|refine CB (ak rfl) ?_|refine CB (au b rfl rfl) ?_|refine CB (hr.ah (by rfl)) ?_|refine CB (pa rfl rfl) ?_|refine CB (la rfl) ?_|refine CB (fP rfl hv.key) ?_|refine CB (fP rfl hk) ?_|refine CB (LY rfl rfl hke) ?_|refine BV (ak rfl) ?_|refine BV (au b rfl rfl) ?_|refine BV (hr.ah (by rfl)) ?_|refine BV (pa rfl rfl) ?_|refine BV (la rfl) ?_|refine BV (fP rfl hv.key) ?_|refine BV (fP rfl hk) ?_|refine BV (LY rfl rfl hke) ?_|refine BP ?_|refine BQ ?_|refine CC ?_
    exact ⟨rfl,lo,P,by rw [hi,show (x.key==key)=false from beq_false_of_ne hke];rfl⟩
  ·have hi:qF l key lo=false:=by unfold qF;rw [List.getElem?_eq_none (by omega)]
   repeat first|refine ZI ?_|refine (CU rfl) ?_|refine CB (ak rfl) ?_|refine CB (au b rfl rfl) ?_|refine CB (hr.ah (by rfl)) ?_|refine BV (ak rfl) ?_|refine BV (au b rfl rfl) ?_|refine BV (hr.ah (by rfl)) ?_|refine BP ?_|refine BQ ?_|refine CC ?_
   exact ⟨rfl,lo,P,by rw [hi];rfl⟩
end
theorem xQ {α:Type} {l:List α} {i:Nat} {x:α} (h:x∈l.take i):∃k,k < i/\l[k]?=some x:=by
 obtain ⟨k,hk⟩:=List.mem_iff_getElem?.1 h
 have:=(List.getElem?_eq_some_iff.1 hk).1
 rw [List.length_take] at this
 rw [List.getElem?_take_of_lt (by omega)] at hk
 exact ⟨k,by omega,hk⟩
theorem xR {α:Type} {l:List α} {i:Nat} {x:α} (h:x∈l.drop i):∃k,i<=k/\l[k]?=some x:=by
 obtain ⟨k,hk⟩:=List.mem_iff_getElem?.1 h
 rw [List.getElem?_drop] at hk
 exact ⟨i+k,by omega,hk⟩
def Ij (l:List EM) (to:List UInt8) (j:Nat):Prop:=if to.length=0 then j=l.length else PlP l to j
theorem MJ {l:List EM} {a b:List UInt8} {i j:Nat} (p:PlP l a i) (q:Ij l b j):(l.drop i).take (j - i)=jl a b l:=by
 rw [<-List.drop_take]
 have hj:(∀x∈l.take j,(decide (b=[])||bl x.key b)=true)/\∀x∈l.drop j,(decide (b=[])||bl x.key b)=false:=by
  unfold Ij at q
  by_cases hb:b.length=0
  ·have hb':b=[]:=List.eq_nil_of_length_eq_zero hb
   rw [if_pos hb] at q
   subst q hb'
   exact ⟨fun x _=>rfl,fun x hx=>by simp at hx⟩
  ·have hb':b≠[]:=fun e=>hb (by rw [e];rfl)
   rw [if_neg hb] at q
   refine ⟨fun x hx=> ?_,fun x hx=> ?_⟩
   ·obtain ⟨k,h1,h2⟩:=xQ hx
    rw [q.lo k x h2 h1];simp
   ·obtain ⟨k,h1,h2⟩:=xR hx
    rw [q.hi k x h2 h1,decide_eq_false hb'];rfl
 have h1:(l.drop j).filter (EN a b)=[]:=List.filter_eq_nil_iff.2 fun x hx=>by unfold EN;rw [hj.2 x hx];simp
 have h2:((l.take j).take i).filter (EN a b)=[]:=List.filter_eq_nil_iff.2 fun x hx=>by
  obtain ⟨k,h2,h3⟩:=xQ hx
  have h4:=(List.getElem?_eq_some_iff.1 h3).1
  rw [List.length_take] at h4
  rw [List.getElem?_take_of_lt (by omega)] at h3
  unfold EN
  rw [p.lo k x h3 h2];simp
 have h3:((l.take j).drop i).filter (EN a b)=(l.take j).drop i:=List.filter_eq_self.2 fun x hx=>by
  have h1:x∈l.take j:=List.mem_of_mem_drop hx
  obtain ⟨k,h2,h3⟩:=xR hx
  have h4:=(List.getElem?_eq_some_iff.1 h3).1
  rw [List.length_take] at h4
  rw [List.getElem?_take_of_lt (by omega)] at h3
  unfold EN
  rw [hj.1 x h1,p.hi k x h3 h2];rfl
 have e:l=(l.take j).take i++(l.take j).drop i++l.drop j:=by rw [List.take_append_drop,List.take_append_drop]
 unfold jl
 conv=>rhs;rw [e]
 rw [List.filter_append,List.filter_append,h1,h2,h3,List.nil_append,List.append_nil]
def GetPost (h:Hp MD) (o:Option EM) (r:AV) (h':Hp MD):Prop:=Keep NoB h h'/\match o with
 |some x=>∃q,r= .tup [.agg (f3 q), .bool true]/\eH h' q x.own/\∀k,blk q.1 k\/blk q.2.1 k->h.n<=k
 |none=>r= .tup [.agg [.ae, .ae, .bool false], .bool false]
theorem ny {g:Nat} {x y:Od} {t:List AV} {h:Hp MD} {l:List AV} {v:AV} (hx:x.ev [] t= .ptr g 0) (hg:Bx h g l) (ho:l.length=3) (hy:y.ev [] t=v):resV t h [.fG 3 x, .slot y]=some [.agg l,v]:=by
 rw [ry hx hg.get (by omega) hy,List.drop_zero,<-ho,List.take_length]
section
variable {E:Nat->Option (Ent MD)}
set_option maxHeartbeats 4000000 in
theorem Xe (hE:∀f e,E f=some e->e.plain) (T:KmT E) {h:Hp MD} {g:Nat} {l:List EM} {F:Nat->Prop} (m:iG h g l F) (hl:kU l) {kv:AV} {key:List UInt8} (hk:RS h 1 kv key.length (key.map ub)):
  WF (lim E) 67 [.ptr g 0,kv] h fun r h'=>GetPost h (aO EM.key l key) r h':=by
 refine aC hE T.get rfl ?_
 simp only [kD,mvE,mvS,clE,efE,ceS,ceE,csE,faE,nlE,ldE,lnE,exE,eV,sL,kI,List.map,getS]
 have b1:Bx (h.push (.rw [.ae, .ae, .bool false])) h.n _:=aH
 have k1:Keep NoB h (h.push (.rw [.ae, .ae, .bool false])):=Keep.push _ _ _
 have m1:=m.up k1
 have hk1:=hk.up k1
 obtain ⟨h1,hh1⟩:∃h1:Hp MD,h1=h.push (.rw [.ae, .ae, .bool false]):=⟨_,rfl⟩
 rw [<-hh1] at b1 k1 m1 hk1
 have hn1:h1.n=h.n+1:=by rw [hh1];rfl
 repeat first|refine ZA ?_|refine BP ?_|refine BQ ?_
 refine aJ (h':=h1) (by rw [hh1];first|done|rfl) ?_
 clear hh1
 refine ag rfl ((tK hE T m1 hl hk1).mono fun r h2 ⟨e2,i,P,er⟩=> ?_)
 subst e2 er
 rw [zS hl.ris P]
 cases hi:qF l key i with
 |false=>
  repeat first|refine ZA ?_|refine BV (di rfl) ?_|refine BW (aV b1 rfl rfl rfl rfl (Nat.le_refl _)) ?_|refine BP ?_|refine BQ ?_
  refine AT (ny rfl b1.put rfl rfl) ⟨k1.own (Keep.put (S:=az h.n) _ _ _ rfl) (fun k q=>by have q:k=h.n:=q;omega),rfl⟩
 |true=>
  obtain ⟨v,bm,en⟩:=m1.out
  obtain ⟨tri,hr,htl,hq,_⟩:=en.out
  obtain ⟨x,hx⟩:∃x,l[i]?=some x:=by
   unfold qF at hi
   cases hx:l[i]? with
   |none=>rw [hx] at hi;cases hi
   |some x=>exact ⟨x,rfl⟩
  have hil:=(List.getElem?_eq_some_iff.1 hx).1
  obtain ⟨q,hqi⟩:∃q,tri[i]?=some q:=⟨_,List.getElem?_eq_getElem (by omega)⟩
  have hv:=hq _ q x hqi hx
  obtain ⟨ga,oa,pa,_,na⟩:=hr.at3 hqi
  have na:∀{e:En} {t:List AV} {x:Od},x.ev e t= .ptr ga oa->(Mv.ldn 3 x).ev e t h2=some (.agg (f3 q)):=fun {_ _ _} hx=>na (Keep.refl NoB _) (fun _ _ q=>q) hx
  have hsz:=hl.sz x (List.mem_of_getElem? hx)
  rw [if_pos rfl,hx]
  repeat first|refine ZA ?_|refine BV (di rfl) ?_|refine BV (ak rfl) ?_|refine BV (au bm rfl rfl) ?_|refine BV (pa rfl rfl) ?_|refine BV (na rfl) ?_|refine BP ?_|refine BQ ?_
  refine ag rfl ((rH hE T.own T.clone hv (by omega) (by omega) (by omega)).mono fun r h3 ⟨q3,e3,k3,v3,l3⟩=> ?_)
  subst e3
  have b3:=b1.up k3
  obtain ⟨qa,qb,qc⟩:=q3
  have hall:allOne [qa,qb, .bool qc]=true:=aX v3.key.one.2 v3.val.one.2 rfl
  repeat first|refine ZA ?_|refine BW (aV b3 rfl rfl hall rfl (Nat.le_refl _)) ?_|refine BP ?_|refine BQ ?_
  have kp:Keep (az h.n) h3 (h3.put h.n (.rw [qa,qb, .bool qc])):=Keep.put _ _ _ rfl
  refine AT (ny (l:=[qa,qb, .bool qc]) rfl b3.put rfl rfl) ⟨(k1.and k3).own kp (fun k q=>by have q:k=h.n:=q;omega),(qa,qb,qc),rfl,v3.keep kp (fun k q1 q2=>by have:=l3 k q1;have q2:k=h.n:=q2;omega),fun k q=>by have:=l3 k q;omega⟩
set_option maxHeartbeats 4000000 in
theorem Dk (hE:∀f e,E f=some e->e.plain) (T:KmT E) {h:Hp MD} {g:Nat} {l:List EM} {F:Nat->Prop} (m:iG h g l F) (hl:kU l) {av bv:AV} {a b:List UInt8} (ha:RS h 1 av a.length (a.map ub)) (hb:RS h 1 bv b.length (b.map ub)):
  WF (lim E) 90 [.ptr g 0,av,bv] h fun r h'=>Keep NoB h h'/\OE h' r ((jl a b l).map EM.own) h.n (fun k=>h.n<=k):=by
 have m0:=m
 obtain ⟨v,bm,en⟩:=m.out
 obtain ⟨tri,hr,htl,hq,_⟩:=en.out
 refine aC hE T.range rfl ?_
 simp only [gZ,mvE,mvS,clE,efE,ceS,ceE,csE,faE,nlE,ldE,lnE,exE,eV,sL,kI,List.map,getS]
 have hln:=hl.len
 have hmx:(maxLen:Nat)=9223372036854775807:=rfl
 repeat first|refine ZC ?_|refine BV (ak rfl) ?_|refine BV (au bm rfl rfl) ?_|refine BV (hr.ah (by rfl)) ?_|refine BV (hb.ah (by rfl)) ?_|refine BP ?_|refine BQ ?_
 refine uK (fun t' g3=>g3=h/\∃(j:Nat) (s7:AV),Ij l b j/\j<=l.length/\t'=[.ptr g 0,av,bv, .ae, .int .i64 j, .bot, .bot,s7, .bot]) ?_ ?_
 ·by_cases h0:(0:Int) < b.length
  ·refine AF rfl (decide_eq_true h0) ?_
   repeat first|refine ZA ?_|refine BP ?_|refine BQ ?_
   refine ag rfl ((tK hE T m0 hl hb).mono fun r h2 ⟨e2,i,P,er⟩=> ?_)
   subst e2 er
   repeat first|refine ZA ?_|refine BP ?_|refine BQ ?_
   exact bK ⟨rfl,i,_,by unfold Ij;rw [if_neg (by omega)];exact P,P.le,rfl⟩
  ·refine AG rfl (decide_eq_false h0) ?_
   repeat first|refine ZA ?_|refine BP ?_|refine BQ ?_
   exact bK ⟨rfl,l.length,_,by unfold Ij;rw [if_pos (by omega)],Nat.le_refl _,rfl⟩
 rintro t' g3 ⟨rfl,j,s7,hj,hjl,rfl⟩
 repeat first|refine ZA ?_|refine BP ?_|refine BQ ?_
 refine ag rfl ((tK hE T m0 hl ha).mono fun r h2 ⟨e2,i,P,er⟩=> ?_)
 subst e2 er
 rw [<-MJ P hj]
 repeat first|refine ZA ?_|refine BP ?_|refine BQ ?_
 refine aQ (fun n t hh=>∃(k:Nat) (rv s8:AV),i<=k/\k<=max i j/\n=j - k/\Keep NoB h2 hh/\OE hh rv (((l.drop i).take (k - i)).map EM.own) h2.n (fun k=>h2.n<=k)/\
  t=[.ptr g 0,av,bv, .ae, .int .i64 j,rv, .int .i64 k,s7,s8]) ?_ (j - i) _ _ ⟨i, .ae,_,by omega,by omega,rfl,Keep.refl _ _,by rw [Nat.sub_self,List.take_zero];exact OE.nil,rfl⟩
 rintro n t hh ⟨k,rv,s8,hik,hkj,hn,K,oe,rfl⟩
 by_cases hlt:k < j
 ·obtain ⟨x,hx⟩:∃x,l[k]?=some x:=⟨_,List.getElem?_eq_getElem (by omega)⟩
  obtain ⟨q,hqi⟩:∃q,tri[k]?=some q:=⟨_,List.getElem?_eq_getElem (by omega)⟩
  have hv:=(hq _ q x hqi hx).up K
  obtain ⟨ga,oa,pa,_,na⟩:=hr.at3 hqi
  have na:∀{e:En} {t:List AV} {x:Od},x.ev e t= .ptr ga oa->(Mv.ldn 3 x).ev e t hh=some (.agg (f3 q)):=fun {_ _ _} hx=>na K (fun _ _ q=>q) hx
  have hsz:=hl.sz x (List.mem_of_getElem? hx)
  have bm2:=bm.up K
  have oln:=oe.lt
  have hKn:=K.n
  repeat first|refine ZA ?_|refine BV (ak rfl) ?_|refine BV (au bm2 rfl rfl) ?_|refine BV (pa rfl rfl) ?_|refine BV (na rfl) ?_|refine BP ?_|refine BQ ?_
  refine ag rfl ((rH hE T.own T.clone hv (by omega) (by omega) (by omega)).mono fun r h3 ⟨q3,e3,k3,v3,l3⟩=> ?_)
  subst e3
  obtain ⟨cells,o1,o2,o3⟩:=(oe.up k3).next v3 (fun k q=>⟨by have:=l3 k q;omega,fun q2=>by have:=l3 k q;have:=oln k q2;omega⟩) (by have:=k3.n;omega)
  have hlm:(((l.drop i).take (k - i)).map EM.own).length=k - i:=by rw [List.length_map,List.length_take,List.length_drop];omega
  obtain ⟨qa,qb,qc⟩:=q3
  repeat first|refine ZA ?_|refine BW (ji rfl v3.key.one.2 v3.val.one.2) ?_|refine BP ?_|refine BQ ?_
  refine aA rfl rfl o1 (by decide) o2 (by omega) (by omega) fun v' h' a1 a2 a3=> ?_
  obtain ⟨p1,p2⟩:=o3 v' h' a1 a2 a3
  repeat first|refine ZA ?_|refine BP ?_|refine BQ ?_
  rw [show ((k:Int)+1)=((k+1:Nat):Int) by omega]
  refine aj (n - 1) (by omega) ⟨k+1,v',_,by omega,by omega,by omega,(K.and k3).own p2 oe.lo, ?_,rfl⟩
  rw [show k+1 - i=(k - i)+1 by omega,uM (e:=x) (by rw [List.getElem?_drop,show i+(k - i)=k by omega];exact hx)]
  exact p1
 ·have e:j - i=k - i:=by omega
  repeat first|refine ZA ?_|refine BP ?_|refine BQ ?_
  rw [e]
  exact ⟨K,oe⟩
theorem Xf (hE:∀f e,E f=some e->e.plain) (T:KmT E) {h:Hp MD} {g:Nat} {l:List EM} {F:Nat->Prop} (m:iG h g l F) (hl:kU l):
  WF (lim E) 79 [.ptr g 0] h fun r h'=>Keep NoB h h'/\OE h' r (l.map EM.own) h.n (fun k=>h.n<=k):=by
 refine aC hE T.all rfl ?_
 simp only [kE,mvE,mvS,clE,efE,ceS,ceE,csE,faE,nlE,ldE,lnE,exE,eV,sL,kI,List.map,getS]
 repeat first|refine ZA ?_|refine BP ?_|refine BQ ?_
 refine ag rfl ((Dk hE T m hl (a:=[]) (b:=[]) (av:= .ae) (bv:= .ae) ⟨rfl,rfl⟩ ⟨rfl,rfl⟩).mono fun r h1 ⟨k1,o1⟩=> ?_)
 have e:jl [] [] l=l:=by
  unfold jl
  refine List.filter_eq_self.2 fun x _=> ?_
  unfold EN
  have:bl x.key []=false:=by unfold bl;cases x.key<;>rfl
  rw [this];rfl
 rw [e] at o1
 repeat first|refine ZA ?_|refine BP ?_|refine BQ ?_
 exact ⟨k1,o1⟩
end
def fH:BF:=⟨9,[0,1,2,4,8],(.seq (.reg [.mk none (.slot 2) (.eff (.box (sL 0))),mvS 3 (.mv (.const (.int .i64 0)))]) (.seq (.seq (.reg [mvE 5 (.aG 0 (sL 2)),ldE 6 5,ceS 7 1, .mk none (.slot 4) (.call 147 [eV 6,eV 7])]) (.cond (sL 4) (.seq (.reg [mvS 3 (.mv (.const (.int .i64 (-1))))]) .ret) .skip)) (.seq (.reg [mvS 3 (.mv (.const (.int .i64 1)))]) .ret))),[.slot (sL 3)]⟩
def rM:BF:=⟨49,[0,1,2,6,7,8,9,10,11,17,31],(.seq (.reg [mvS 3 (.mv (.const (.int .i64 0))),mvS 4 (.mv (.const (.bool false)))]) (.seq (.reg [ceS 12 0,lnE 13 12,csE 5 13]) (.seq (.reg [ceS 14 5,mvS 6 (.mv (.const (.int .i64 0))),csE 7 14]) (.seq (.block 0 (.loop (.seq (.seq (.reg [ceS 15 6,ceS 16 7,mvS 9 (.bin .lss .no (eV 15) (eV 16))]) (.cond (sL 9) .skip (.exit 0))) (.block 1 (.seq (.reg [ceS 18 6,ceS 19 7,mvE 20 (.bin .add .no (eV 18) (eV 19)),mvE 21 (.conv .u64 (eV 20)),mvE 22 (.bin .shr .no (eV 21) (.const (.int .u64 1))),mvE 23 (.conv .i64 (eV 22)),csE 8 23]) (.seq (.reg [ceS 24 2,ceS 25 0,ceS 26 8,mvE 27 (.aP 3 (eV 25) (eV 26)),mvE 28 (.ldn 3 (eV 27)),ceS 29 1, .mk none (.env 30) (.qO (eV 24) [eV 28,eV 29]),mvS 10 (.bin .lss .no (eV 30) (.const (.int .i64 0)))]) (.cond (sL 10) (.reg [ceS 32 8,mvE 33 (.bin .add .no (eV 32) (.const (.int .i64 1))),csE 6 33]) (.reg [ceS 34 8,csE 7 34])))))))) (.seq (.reg [ceS 35 6,ceS 36 6,ceS 37 5,mvE 38 (.bin .lss .no (eV 36) (eV 37)),ceE 39 38, .mk (some ((eV 39),true)) (.env 40) (.mov (.mv (sL 2))), .mk (some ((eV 39),true)) (.env 41) (.mov (.mv (sL 0))), .mk (some ((eV 39),true)) (.env 42) (.mov (.mv (sL 6))), .mk (some ((eV 39),true)) (.env 43) (.mov (.aP 3 (eV 41) (eV 42))), .mk (some ((eV 39),true)) (.env 44) (.mov (.ldn 3 (eV 43))), .mk (some ((eV 39),true)) (.env 45) (.mov (.mv (sL 1))), .mk (some ((eV 39),true)) (.env 46) (.qO (eV 40) [eV 44,eV 45]), .mk (some ((eV 39),true)) (.env 47) (.mov (.bin .eql .no (eV 46) (.const (.int .i64 0)))),mvE 48 (.pick (eV 39) (eV 47) (.const (.bool false))),csE 3 35,csE 4 48]) .ret))))),[.slot (sL 3), .slot (sL 4)]⟩
def ig:BF:=⟨17,[0,1,4,5],(.seq (.reg [mvS 2 (.mv (.const (.int .i64 0)))]) (.seq (.reg [ceS 8 0,nlE 9 8,faE 10 0 9,ldE 11 10,ceS 12 1,clE 13 150 [eV 11,eV 12,(.const (.func 151 []))],ceE 7 13,exE 14 0 7,exE 15 1 7,csE 3 14,ceE 6 15]) (.seq (.reg [ceS 16 3,csE 2 16]) .ret))),[.slot (sL 2)]⟩
def kF:BF:=⟨40,[0,1,4,5,6,30],(.seq (.reg [.mk none (.slot 2) (.eff (.alloc [.ae, .ae,(.bool false)])),mvS 3 (.mv (.const (.bool false)))]) (.seq (.reg [ceS 7 0,ceS 8 1,clE 9 113 [eV 7,eV 8],csE 4 9]) (.seq (.seq (.iC [(ceS 10 4,[]),(ceS 11 0,[]),(nlE 12 11,[]),(faE 13 0 12,[]),(ldE 14 13,[]),(lnE 15 14,[]),(mvE 16 (.bin .eql .no (eV 10) (eV 15)),[]),(ceE 17 16,[]),(.mk (some ((eV 17),false)) (.env 18) (.mov (.mv (sL 0))),[]),(.mk (some ((eV 17),false)) (.env 19) (.mov (.FP (eV 18))),[]),(.mk (some ((eV 17),false)) (.env 20) (.mov (.aG 0 (eV 19))),[]),(.mk (some ((eV 17),false)) (.env 21) (.mov (.ld1 (eV 20))),[]),(.mk (some ((eV 17),false)) (.env 22) (.mov (.mv (sL 4))),[]),(.mk (some ((eV 17),false)) (.env 23) (.mov (.aP 3 (eV 21) (eV 22))),[]),(.mk (some ((eV 17),false)) (.env 24) (.mov (.aG 0 (eV 23))),[]),(.mk (some ((eV 17),false)) (.env 25) (.mov (.ld1 (eV 24))),[]),(.mk (some ((eV 17),false)) (.env 26) (.mov (.b2s (eV 25))),[]),(.mk (some ((eV 17),false)) (.env 27) (.mov (.mv (sL 1))),[]),(.mk (some ((eV 17),false)) (.env 28) (.mov (.b2s (eV 27))),[]),(.mk (some ((eV 17),false)) (.env 29) (.mov (.bin .neq .no (eV 26) (eV 28))),[]),(mvS 5 (.pick (eV 17) (.const (.bool true)) (eV 29)),[])]) (.cond (sL 5) (.seq (.reg [mvE 31 (.bld [.ae, .ae,(.bool false)] []), .mk none .none (.eff (.store 3 (sL 2) (eV 31))),mvS 3 (.mv (.const (.bool false)))]) .ret) .skip)) (.seq (.reg [ceS 32 0,nlE 33 32,faE 34 0 33,ldE 35 34,ceS 36 4,mvE 37 (.aP 3 (eV 35) (eV 36)),mvE 38 (.ldn 3 (eV 37)),clE 39 114 [eV 38], .mk none .none (.eff (.store 3 (sL 2) (eV 39))),mvS 3 (.mv (.const (.bool true)))]) .ret)))),[.fG 3 (sL 2), .slot (sL 3)]⟩
def ik:BF:=⟨41,[0,1,2,6,7,8,9,17,26],(.seq (.reg [mvS 3 (.mv (.const .ae))]) (.seq (.reg [ceS 10 0,nlE 11 10,faE 12 0 11,ldE 13 12,lnE 14 13,csE 4 14]) (.seq (.seq (.reg [ceS 15 2,lnE 16 15,mvS 7 (.bin .gtr .no (eV 16) (.const (.int .i64 0)))]) (.cond (sL 7) (.reg [ceS 18 0,ceS 19 2,clE 20 113 [eV 18,eV 19],csE 4 20]) .skip)) (.seq (.reg [mvS 5 (.mv (.const .ae))]) (.seq (.seq (.reg [ceS 21 0,ceS 22 1,clE 23 113 [eV 21,eV 22],csE 6 23]) (.block 0 (.loop (.seq (.seq (.reg [ceS 24 6,ceS 25 4,mvS 8 (.bin .lss .no (eV 24) (eV 25))]) (.cond (sL 8) .skip (.exit 0))) (.seq (.block 1 (.reg [ceS 29 5,ceS 30 0,nlE 31 30,faE 32 0 31,ldE 33 32,ceS 34 6,mvE 35 (.aP 3 (eV 33) (eV 34)),mvE 36 (.ldn 3 (eV 35)),clE 37 114 [eV 36],efE 38 (.aF 3 1 [.ae, .ae,(.bool false)] [(0,3,(eV 37))]),efE 39 (.append 3 56 (eV 29) (eV 38)),csE 5 39])) (.reg [ceS 27 6,mvE 28 (.bin .add .no (eV 27) (.const (.int .i64 1))),csE 6 28])))))) (.seq (.reg [ceS 40 5,csE 3 40]) .ret)))))),[.slot (sL 3)]⟩
def kG:BF:=⟨5,[0,2],(.seq (.reg [mvS 1 (.mv (.const .ae))]) (.seq (.reg [ceS 3 0,clE 4 91 [eV 3,(.const .ae),(.const .ae)],csE 1 4]) .ret)),[.slot (sL 1)]⟩
def lZ:BF:=⟨15,[0,1,2,12],(.seq (.reg [.mk none (.slot 1) (.eff (.box (sL 0))), .mk none (.slot 2) (.eff (.alloc [.ae, .ae,(.bool false)]))]) (.seq (.iC [(mvE 3 (.aG 0 (sL 1)),[]),(ldE 4 3,[]),(mvE 6 (.aG 1 (sL 1)),[]),(ldE 7 6,[]),(clE 5 112 [eV 4],[2,3]),(mvE 9 (.aG 0 (sL 1)),[]),(clE 8 112 [eV 7],[5]),(.mk none .none (.eff (.store 1 (eV 9) (eV 5))),[]),(mvE 10 (.aG 1 (sL 1)),[]),(.mk none .none (.eff (.store 1 (eV 10) (eV 8))),[])]) (.seq (.seq (.reg [mvE 11 (.aG 2 (sL 1)),mvS 3 (.ld1 (eV 11))]) (.cond (sL 3) (.reg [mvE 13 (.aG 1 (sL 1)), .mk none .none (.eff (.store 1 (eV 13) (.const .ae)))]) .skip)) (.seq (.reg [mvE 14 (.ldn 3 (sL 1)), .mk none .none (.eff (.store 3 (sL 2) (eV 14)))]) .ret)))),[.fG 3 (sL 2)]⟩
structure KtT (E:Nat->Option (Ent MD)):Prop extends KmT E where
 Xg:E 151=some (.bc fH)
 bsf:E 150=some (.bc rM)
 ZN:E 113=some (.bc ig)
 acn:E 68=some (.bc kF)
 ZO:E 91=some (.bc ik)
 aco:E 86=some (.bc kG)
 town:E 114=some (.bc lZ)
section
variable {X:Type} {e:En} {t:List AV} {h:Hp X}
theorem ZP {q:Eq} {x y:Od} {k':IntKind} {r:Nat} (hx:x.ev e t= .int .u64 (r:Int)) (hy:y.ev e t= .int k' 1):(Mv.bin .shr q x y).ev e t h=some (.int .u64 ((r / 2:Nat):Int)):=by
 rw [XU hx hy (by decide)]
 have e:(min (Int.toNat 1) IntKind.u64.bits)=1:=rfl
 rw [e,Int.fdiv_eq_ediv_of_nonneg _ (by decide)]
 rfl
theorem MK {D:Dp X} {l:List St1} {k f:Nat} {Q:R X->Prop} {x:Od} {xs:List Od} {args:List AV} (hx:x.ev e t= .func f []) (ha:(xs.map fun x=>x.ev e t)=args) (H:WF D f args h fun v h'=>WR D l ((k,v)::e) t h' Q):WR D (.mk none (.env k) (.qO x xs)::l) e t h Q:=by
 obtain ⟨v,h',hf,⟨r,h1,h2,h3⟩⟩:=H.out
 subst ha
 refine ⟨⟨r, ?_,h2,h3⟩⟩
 simp only [runRg,gdv,gdR,Op1.run,hx,List.append_nil,hf,stepR]
 exact h1
end
section
variable {E:Nat->Option (Ent MD)}
theorem Dl (hE:∀f e,E f=some e->e.plain) (T:KtT E) {h:Hp MD} {q:T3} {x:EM} (hv:eH h q x) {kv:AV} {key:List UInt8} (hk:RS h 1 kv key.length (key.map ub)):
  WF (lim E) 151 [.agg (f3 q),kv] h fun r h'=>Keep NoB h h'/\r= .int .i64 (if bl x.key key then -1 else 1):=by
 refine aC hE T.Xg rfl ?_
 simp only [fH,mvE,mvS,clE,efE,ceS,ceE,csE,faE,nlE,ldE,lnE,exE,eV,sL,kI,List.map,getS]
 obtain ⟨qa,qb,qc⟩:=q
 have hall:allOne [qa,qb, .bool qc]=true:=aX hv.key.one.2 hv.val.one.2 rfl
 have b1:Bx (h.push (.rw [qa,qb, .bool qc])) h.n _:=aH
 have k1:Keep NoB h (h.push (.rw [qa,qb, .bool qc])):=Keep.push _ _ _
 have hq:=hv.key.up k1
 have hk1:=hk.up k1
 simp only at hq
 repeat first|refine ZA ?_|refine BV (au b1 rfl rfl) ?_|refine BW (iD rfl hall) ?_|refine BP ?_|refine BQ ?_
 refine nY rfl ((tJ hE T.less T.Ou hq hk1).mono fun r h1 ⟨e1,e2⟩=> ?_)
 subst e1 e2
 cases hb:bl x.key key with
 |true=>
  repeat first|refine ZA ?_|refine BP ?_|refine BQ ?_
  exact ⟨k1,rfl⟩
 |false=>
  repeat first|refine ZA ?_|refine BP ?_|refine BQ ?_
  exact ⟨k1,rfl⟩
set_option maxHeartbeats 4000000 in
theorem ZQ (hE:∀f e,E f=some e->e.plain) (T:KtT E) {h:Hp MD} {v:AV} {l:List EM} {F:Nat->Prop} (en:aN h v l F) (hl:kU l) {kv:AV} {key:List UInt8} (hk:RS h 1 kv key.length (key.map ub)):
  WF (lim E) 150 [v,kv, .func 151 []] h fun r h'=>Keep NoB h h'/\∃(i:Nat) (b:Bool),PlP l key i/\r= .tup [.int .i64 i, .bool b]:=by
 obtain ⟨tri,hr,htl,hq,_⟩:=en.out
 refine aC hE T.bsf rfl ?_
 simp only [rM,mvE,mvS,clE,efE,ceS,ceE,csE,faE,nlE,ldE,lnE,exE,eV,sL,kI,List.map,getS]
 have hln:=hl.len
 repeat first|refine ZA ?_|refine BV (hr.ah (by rfl)) ?_|refine BP ?_|refine BQ ?_
 refine aQ (fun n t hh=>∃(lo hi:Nat) (s8 s9 s10:AV),Keep NoB h hh/\lo<=hi/\hi<=l.length/\(∀(k:Nat) x,l[k]?=some x->k < lo->bl x.key key=true)/\(∀(k:Nat) x,l[k]?=some x->hi<=k->bl x.key key=false)/\n=hi - lo/\
  t=[v,kv, .func 151 [], .int .i64 0, .bool false, .int .i64 l.length, .int .i64 lo, .int .i64 hi,s8,s9,s10]) ?_ l.length _ _ ⟨0,l.length,_,_,_,Keep.refl _ _,by omega,by omega,fun k x _ q=>by omega,fun k x hx q=>by have:=(List.getElem?_eq_some_iff.1 hx).1;omega,by omega,rfl⟩
 rintro n t hh ⟨lo,hi,s8,s9,s10,K,hlh,hhl,hlo,hhi,hn,rfl⟩
 have hk2:=hk.up K
 by_cases hlt:lo < hi
 ·have hm1:lo<=(lo+hi) / 2:=by omega
  have hm2:(lo+hi) / 2 < hi:=by omega
  obtain ⟨x,hx⟩:∃x,l[(lo+hi) / 2]?=some x:=⟨_,List.getElem?_eq_getElem (by omega)⟩
  obtain ⟨q,hqi⟩:∃q,tri[(lo+hi) / 2]?=some q:=⟨_,List.getElem?_eq_getElem (by omega)⟩
  have hv:=(hq _ q x hqi hx).up K
  obtain ⟨ga,oa,pa,_,na⟩:=hr.at3 hqi
  have na:∀{e:En} {t:List AV} {x:Od},x.ev e t= .ptr ga oa->(Mv.ldn 3 x).ev e t hh=some (.agg (f3 q)):=fun {_ _ _} hx=>na K (fun _ _ q=>q) hx
  have hsum:((lo:Int)+hi)=((lo+hi:Nat):Int):=by omega
  repeat first|refine ZA ?_|refine BQ ?_
  rw [hsum]
  repeat first|refine ZA ?_|refine BV (cO rfl (by omega)) ?_|refine BV (ZP rfl rfl) ?_|refine BV (cZ rfl (by omega)) ?_|refine BV (pa rfl rfl) ?_|refine BV (na rfl) ?_|refine BP ?_|refine BQ ?_
  refine MK rfl rfl ((Dl hE T hv hk2).mono fun r h1 ⟨k1,e1⟩=> ?_)
  subst e1
  cases hb:bl x.key key with
  |true=>
   rw [if_pos rfl]
   repeat first|refine ZA ?_|refine BP ?_|refine BQ ?_
   rw [show (((lo+hi) / 2:Nat):Int)+1=(((lo+hi) / 2+1:Nat):Int) by omega]
   exact aj (hi - ((lo+hi) / 2+1)) (by omega) ⟨(lo+hi) / 2+1,hi,_,_,_,K.and k1,by omega,hhl,Yg hl.ris hx hb,hhi,rfl,rfl⟩
  |false=>
   rw [if_neg (by simp)]
   repeat first|refine ZA ?_|refine BP ?_|refine BQ ?_
   exact aj ((lo+hi) / 2 - lo) (by omega) ⟨lo,(lo+hi) / 2,_,_,_,K.and k1,by omega,by omega,hlo,Yh hl.ris hx hb,rfl,rfl⟩
 ·have e:lo=hi:=by omega
  subst e
  have P:PlP l key lo:=⟨hhl,hlo,hhi⟩
  by_cases hlt2:lo < l.length
  ·obtain ⟨x,hx⟩:∃x,l[lo]?=some x:=⟨_,List.getElem?_eq_getElem hlt2⟩
   obtain ⟨q,hqi⟩:∃q,tri[lo]?=some q:=⟨_,List.getElem?_eq_getElem (by omega)⟩
   have hv:=(hq _ q x hqi hx).up K
   obtain ⟨ga,oa,pa,_,na⟩:=hr.at3 hqi
   have na:∀{e:En} {t:List AV} {x:Od},x.ev e t= .ptr ga oa->(Mv.ldn 3 x).ev e t hh=some (.agg (f3 q)):=fun {_ _ _} hx=>na K (fun _ _ q=>q) hx
   repeat first|refine ZA ?_|refine BV (pa rfl rfl) ?_|refine BV (na rfl) ?_|refine BP ?_|refine BQ ?_
   refine MK rfl rfl ((Dl hE T hv hk2).mono fun r h1 ⟨k1,e1⟩=> ?_)
   subst e1
   rw [P.hi lo x hx (Nat.le_refl _),if_neg (by simp)]
   repeat first|refine ZA ?_|refine BP ?_|refine BQ ?_
   exact ⟨K.and k1,lo,_,P,rfl⟩
  ·repeat first|refine ZA ?_|refine BP ?_|refine BQ ?_
   exact ⟨K,lo,_,P,rfl⟩
theorem xx (hE:∀f e,E f=some e->e.plain) (T:KtT E) {h:Hp MD} {g:Nat} {l:List EM} {F:Nat->Prop} (m:iG h g l F) (hl:kU l) {kv:AV} {key:List UInt8} (hk:RS h 1 kv key.length (key.map ub)):
  WF (lim E) 113 [.ptr g 0,kv] h fun r h'=>Keep NoB h h'/\∃i:Nat,PlP l key i/\r= .int .i64 i:=by
 obtain ⟨v,bm,en⟩:=m.out
 refine aC hE T.ZN rfl ?_
 simp only [ig,mvE,mvS,clE,efE,ceS,ceE,csE,faE,nlE,ldE,lnE,exE,eV,sL,kI,List.map,getS]
 repeat first|refine ZA ?_|refine BV (ak rfl) ?_|refine BV (au bm rfl rfl) ?_|refine BP ?_|refine BQ ?_
 refine ag rfl ((ZQ hE T en hl hk).mono fun r h1 ⟨k1,i,b,P,e1⟩=> ?_)
 subst e1
 repeat first|refine ZA ?_|refine BP ?_|refine BQ ?_
 exact ⟨k1,i,P,rfl⟩
set_option maxHeartbeats 4000000 in
theorem Xh (hE:∀f e,E f=some e->e.plain) (T:KtT E) {h:Hp MD} {g:Nat} {l:List EM} {F:Nat->Prop} (m:iG h g l F) (hl:kU l) {kv:AV} {key:List UInt8} (hk:RS h 1 kv key.length (key.map ub)):
  WF (lim E) 68 [.ptr g 0,kv] h fun r h'=>GetPost h (aO EM.key l key) r h':=by
 refine aC hE T.acn rfl ?_
 simp only [kF,mvE,mvS,clE,efE,ceS,ceE,csE,faE,nlE,ldE,lnE,exE,eV,sL,kI,List.map,getS]
 have b1:Bx (h.push (.rw [.ae, .ae, .bool false])) h.n _:=aH
 have k1:Keep NoB h (h.push (.rw [.ae, .ae, .bool false])):=Keep.push _ _ _
 have m1:=m.up k1
 have hk1:=hk.up k1
 obtain ⟨h1,hh1⟩:∃h1:Hp MD,h1=h.push (.rw [.ae, .ae, .bool false]):=⟨_,rfl⟩
 rw [<-hh1] at b1 k1 m1 hk1
 have hn1:h1.n=h.n+1:=by rw [hh1];rfl
 repeat first|refine ZA ?_|refine BP ?_|refine BQ ?_
 refine aJ (h':=h1) (by rw [hh1];first|done|rfl) ?_
 clear hh1
 refine ag rfl ((xx hE T m1 hl hk1).mono fun r h2 ⟨k2,i,P,er⟩=> ?_)
 subst er
 have b2:=b1.up k2
 have hk2:=hk1.up k2
 have K2:=k1.and k2
 have n2:=k2.n
 have hln:=hl.len
 obtain ⟨v,bm,en⟩:=(m1.up k2).out
 obtain ⟨tri,hr,htl,hq,_⟩:=en.out
 rw [zS hl.ris P]
 have no:qF l key i=false->GetPost h (if qF l key i then l[i]? else none) (.tup [.agg [.ae, .ae, .bool false], .bool false]) (h2.put h.n (.rw [.ae, .ae, .bool false])):=fun e=>by
  rw [e]
  exact ⟨K2.own (Keep.put (S:=az h.n) _ _ _ rfl) (fun k q=>by have q:k=h.n:=q;omega),rfl⟩
 have ple:=P.le
 by_cases hlt:i < l.length
 ·obtain ⟨x,hx⟩:∃x,l[i]?=some x:=⟨_,List.getElem?_eq_getElem hlt⟩
  obtain ⟨q,hqi⟩:∃q,tri[i]?=some q:=⟨_,List.getElem?_eq_getElem (by omega)⟩
  have hv:=hq _ q x hqi hx
  obtain ⟨ga,oa,pa,la,na⟩:=hr.at3 hqi
  have na:∀{e:En} {t:List AV} {x:Od},x.ev e t= .ptr ga oa->(Mv.ldn 3 x).ev e t h2=some (.agg (f3 q)):=fun {_ _ _} hx=>na (Keep.refl NoB _) (fun _ _ q=>q) hx
  have la:∀{e:En} {t:List AV} {x:Od},x.ev e t= .ptr ga oa->(Mv.ld1 x).ev e t h2=some q.1:=fun {_ _ _} hx=>la (Keep.refl NoB _) (fun _ _ q=>q) (j:=0) hx (by decide)
  have hsz:=hl.sz x (List.mem_of_getElem? hx)
  have hne:¬((i:Int)=l.length):=by omega
  have hi:qF l key i=(x.key==key):=by unfold qF;rw [hx]
  by_cases hke:x.key=key
  ·repeat first|refine ZI ?_|refine CB (ak rfl) ?_|refine CB (au bm rfl rfl) ?_|refine CB (hr.ah (by rfl)) ?_|refine CB (pa rfl rfl) ?_|refine CB (la rfl) ?_|refine CB (fP rfl hv.key) ?_|refine CB (fP rfl hk2) ?_|refine CB (sZ rfl rfl hke) ?_|refine CB (na rfl) ?_|refine BV (ak rfl) ?_|refine BV (au bm rfl rfl) ?_|refine BV (hr.ah (by rfl)) ?_|refine BV (pa rfl rfl) ?_|refine BV (la rfl) ?_|refine BV (fP rfl hv.key) ?_|refine BV (fP rfl hk2) ?_|refine BV (sZ rfl rfl hke) ?_|refine BV (na rfl) ?_|refine BP ?_|refine BQ ?_|refine CC ?_
   rw [hi,show (x.key==key)=true by simp [hke],if_pos rfl,hx]
   refine ag rfl ((rH hE T.town T.clone hv (by omega) (by omega) (by omega)).mono fun r h3 ⟨q3,e3,k3,v3,l3⟩=> ?_)
   subst e3
   have b3:=b2.up k3
   obtain ⟨qa,qb,qc⟩:=q3
   have hall:allOne [qa,qb, .bool qc]=true:=aX v3.key.one.2 v3.val.one.2 rfl
   repeat first|refine ZA ?_|refine BW (aV b3 rfl rfl hall rfl (Nat.le_refl _)) ?_|refine BP ?_|refine BQ ?_
   have kp:Keep (az h.n) h3 (h3.put h.n (.rw [qa,qb, .bool qc])):=Keep.put _ _ _ rfl
   refine AT (ny (l:=[qa,qb, .bool qc]) rfl b3.put rfl rfl) ⟨(K2.and k3).own kp (fun k q=>by have q:k=h.n:=q;omega),(qa,qb,qc),rfl,v3.keep kp (fun k q1 q2=>by have:=l3 k q1;have q2:k=h.n:=q2;omega),fun k q=>by have:=l3 k q;omega⟩
  ·repeat first|refine ZI ?_|refine CB (ak rfl) ?_|refine CB (au bm rfl rfl) ?_|refine CB (hr.ah (by rfl)) ?_|refine CB (pa rfl rfl) ?_|refine CB (la rfl) ?_|refine CB (fP rfl hv.key) ?_|refine CB (fP rfl hk2) ?_|refine CB (EG rfl rfl hke) ?_|refine BV (ak rfl) ?_|refine BV (au bm rfl rfl) ?_|refine BV (hr.ah (by rfl)) ?_|refine BV (pa rfl rfl) ?_|refine BV (la rfl) ?_|refine BV (fP rfl hv.key) ?_|refine BV (fP rfl hk2) ?_|refine BV (EG rfl rfl hke) ?_|refine BW (aV b2 rfl rfl rfl rfl (Nat.le_refl _)) ?_|refine BP ?_|refine BQ ?_|refine CC ?_
   exact AT (ny rfl b2.put rfl rfl) (no (by rw [hi];exact beq_false_of_ne hke))
 ·have heq:((i:Int)=l.length):=by omega
  repeat first|refine ZI ?_|refine (CU rfl) ?_|refine CB (ak rfl) ?_|refine CB (au bm rfl rfl) ?_|refine CB (hr.ah (by rfl)) ?_|refine BV (ak rfl) ?_|refine BV (au bm rfl rfl) ?_|refine BV (hr.ah (by rfl)) ?_|refine BW (aV b2 rfl rfl rfl rfl (Nat.le_refl _)) ?_|refine BP ?_|refine BQ ?_|refine CC ?_
  exact AT (ny rfl b2.put rfl rfl) (no (by unfold qF;rw [List.getElem?_eq_none (by omega)]))
set_option maxHeartbeats 4000000 in
theorem Dn (hE:∀f e,E f=some e->e.plain) (T:KtT E) {h:Hp MD} {g:Nat} {l:List EM} {F:Nat->Prop} (m:iG h g l F) (hl:kU l) {av bv:AV} {a b:List UInt8} (ha:RS h 1 av a.length (a.map ub)) (hb:RS h 1 bv b.length (b.map ub)):
  WF (lim E) 91 [.ptr g 0,av,bv] h fun r h'=>Keep NoB h h'/\OE h' r ((jl a b l).map EM.own) h.n (fun k=>h.n<=k):=by
 have m0:=m
 obtain ⟨v,bm,en⟩:=m.out
 obtain ⟨tri,hr,htl,hq,_⟩:=en.out
 refine aC hE T.ZO rfl ?_
 simp only [ik,mvE,mvS,clE,efE,ceS,ceE,csE,faE,nlE,ldE,lnE,exE,eV,sL,kI,List.map,getS]
 have hln:=hl.len
 have hmx:(maxLen:Nat)=9223372036854775807:=rfl
 repeat first|refine ZC ?_|refine BV (ak rfl) ?_|refine BV (au bm rfl rfl) ?_|refine BV (hr.ah (by rfl)) ?_|refine BV (hb.ah (by rfl)) ?_|refine BP ?_|refine BQ ?_
 refine uK (fun t' g3=>Keep NoB h g3/\∃(j:Nat) (s7:AV),Ij l b j/\j<=l.length/\t'=[.ptr g 0,av,bv, .ae, .int .i64 j, .bot, .bot,s7, .bot]) ?_ ?_
 ·by_cases h0:(0:Int) < b.length
  ·refine AF rfl (decide_eq_true h0) ?_
   repeat first|refine ZA ?_|refine BP ?_|refine BQ ?_
   refine ag rfl ((xx hE T m0 hl hb).mono fun r h2 ⟨k2,i,P,er⟩=> ?_)
   subst er
   repeat first|refine ZA ?_|refine BP ?_|refine BQ ?_
   exact bK ⟨k2,i,_,by unfold Ij;rw [if_neg (by omega)];exact P,P.le,rfl⟩
  ·refine AG rfl (decide_eq_false h0) ?_
   repeat first|refine ZA ?_|refine BP ?_|refine BQ ?_
   exact bK ⟨Keep.refl _ _,l.length,_,by unfold Ij;rw [if_pos (by omega)],Nat.le_refl _,rfl⟩
 rintro t' g3 ⟨k3,j,s7,hj,hjl,rfl⟩
 have m3:=m0.up k3
 have n3:=k3.n
 repeat first|refine ZA ?_|refine BP ?_|refine BQ ?_
 refine ag rfl ((xx hE T m3 hl (ha.up k3)).mono fun r h2 ⟨k2,i,P,er⟩=> ?_)
 subst er
 have n2:=k2.n
 have K2:=k3.and k2
 rw [<-MJ P hj]
 repeat first|refine ZA ?_|refine BP ?_|refine BQ ?_
 refine aQ (fun n t hh=>∃(k:Nat) (rv s8:AV),i<=k/\k<=max i j/\n=j - k/\Keep NoB h hh/\OE hh rv (((l.drop i).take (k - i)).map EM.own) h.n (fun k=>h.n<=k)/\
  t=[.ptr g 0,av,bv, .ae, .int .i64 j,rv, .int .i64 k,s7,s8]) ?_ (j - i) _ _ ⟨i, .ae,_,by omega,by omega,rfl,K2,by rw [Nat.sub_self,List.take_zero];exact OE.nil,rfl⟩
 rintro n t hh ⟨k,rv,s8,hik,hkj,hn,K,oe,rfl⟩
 by_cases hlt:k < j
 ·obtain ⟨x,hx⟩:∃x,l[k]?=some x:=⟨_,List.getElem?_eq_getElem (by omega)⟩
  obtain ⟨q,hqi⟩:∃q,tri[k]?=some q:=⟨_,List.getElem?_eq_getElem (by omega)⟩
  have hv:=(hq _ q x hqi hx).up K
  obtain ⟨ga,oa,pa,_,na⟩:=hr.at3 hqi
  have na:∀{e:En} {t:List AV} {x:Od},x.ev e t= .ptr ga oa->(Mv.ldn 3 x).ev e t hh=some (.agg (f3 q)):=fun {_ _ _} hx=>na K (fun _ _ q=>q) hx
  have hsz:=hl.sz x (List.mem_of_getElem? hx)
  have bm2:=bm.up K
  have oln:=oe.lt
  have hKn:=K.n
  repeat first|refine ZA ?_|refine BV (ak rfl) ?_|refine BV (au bm2 rfl rfl) ?_|refine BV (pa rfl rfl) ?_|refine BV (na rfl) ?_|refine BP ?_|refine BQ ?_
  refine ag rfl ((rH hE T.town T.clone hv (by omega) (by omega) (by omega)).mono fun r h3 ⟨q3,e3,k3,v3,l3⟩=> ?_)
  subst e3
  obtain ⟨cells,o1,o2,o3⟩:=(oe.up k3).next v3 (fun k q=>⟨by have:=l3 k q;omega,fun q2=>by have:=l3 k q;have:=oln k q2;omega⟩) (by have:=k3.n;omega)
  have hlm:(((l.drop i).take (k - i)).map EM.own).length=k - i:=by rw [List.length_map,List.length_take,List.length_drop];omega
  obtain ⟨qa,qb,qc⟩:=q3
  repeat first|refine ZA ?_|refine BW (ji rfl v3.key.one.2 v3.val.one.2) ?_|refine BP ?_|refine BQ ?_
  refine aA rfl rfl o1 (by decide) o2 (by omega) (by omega) fun v' h' a1 a2 a3=> ?_
  obtain ⟨p1,p2⟩:=o3 v' h' a1 a2 a3
  repeat first|refine ZA ?_|refine BP ?_|refine BQ ?_
  rw [show ((k:Int)+1)=((k+1:Nat):Int) by omega]
  refine aj (n - 1) (by omega) ⟨k+1,v',_,by omega,by omega,by omega,(K.and k3).own p2 oe.lo, ?_,rfl⟩
  rw [show k+1 - i=(k - i)+1 by omega,uM (e:=x) (by rw [List.getElem?_drop,show i+(k - i)=k by omega];exact hx)]
  exact p1
 ·have e:j - i=k - i:=by omega
  repeat first|refine ZA ?_|refine BP ?_|refine BQ ?_
  rw [e]
  exact ⟨K,oe⟩
theorem ML (l:List EM):jl [] [] l=l:=by
 unfold jl
 refine List.filter_eq_self.2 fun x _=> ?_
 unfold EN
 have:bl x.key []=false:=by unfold bl;cases x.key<;>rfl
 rw [this];rfl
theorem Xi (hE:∀f e,E f=some e->e.plain) (T:KtT E) {h:Hp MD} {g:Nat} {l:List EM} {F:Nat->Prop} (m:iG h g l F) (hl:kU l):
  WF (lim E) 86 [.ptr g 0] h fun r h'=>Keep NoB h h'/\OE h' r (l.map EM.own) h.n (fun k=>h.n<=k):=by
 refine aC hE T.aco rfl ?_
 simp only [kG,mvE,mvS,clE,efE,ceS,ceE,csE,faE,nlE,ldE,lnE,exE,eV,sL,kI,List.map,getS]
 repeat first|refine ZA ?_|refine BP ?_|refine BQ ?_
 refine ag rfl ((Dn hE T m hl (a:=[]) (b:=[]) (av:= .ae) (bv:= .ae) ⟨rfl,rfl⟩ ⟨rfl,rfl⟩).mono fun r h1 ⟨k1,o1⟩=> ?_)
 rw [ML] at o1
 repeat first|refine ZA ?_|refine BP ?_|refine BQ ?_
 exact ⟨k1,o1⟩
end
def qp:BF:=⟨15,[0,1,2,12],(.seq (.reg [.mk none (.slot 1) (.eff (.box (sL 0))), .mk none (.slot 2) (.eff (.alloc [.ae, .ae,(.bool false)]))]) (.seq (.iC [(mvE 3 (.aG 0 (sL 1)),[]),(ldE 4 3,[]),(mvE 6 (.aG 1 (sL 1)),[]),(ldE 7 6,[]),(clE 5 112 [eV 4],[2,3]),(mvE 9 (.aG 0 (sL 1)),[]),(clE 8 112 [eV 7],[5]),(.mk none .none (.eff (.store 1 (eV 9) (eV 5))),[]),(mvE 10 (.aG 1 (sL 1)),[]),(.mk none .none (.eff (.store 1 (eV 10) (eV 8))),[])]) (.seq (.seq (.reg [mvE 11 (.aG 2 (sL 1)),mvS 3 (.ld1 (eV 11))]) (.cond (sL 3) (.reg [mvE 13 (.aG 1 (sL 1)), .mk none .none (.eff (.store 1 (eV 13) (.const .ae)))]) .skip)) (.seq (.reg [mvE 14 (.ldn 3 (sL 1)), .mk none .none (.eff (.store 3 (sL 2) (eV 14)))]) .ret)))),[.fG 3 (sL 2)]⟩
def kH:BF:=⟨17,[0,2,3,9],(.seq (.reg [.mk none (.slot 1) (.eff (.alloc [.ae, .ae,(.bool false)])),mvS 2 (.mv (.const (.bool false)))]) (.seq (.seq (.reg [ceS 4 0,nlE 5 4,faE 6 0 5,ldE 7 6,lnE 8 7,mvS 3 (.bin .eql .no (eV 8) (.const (.int .i64 0)))]) (.cond (sL 3) (.seq (.reg [mvE 10 (.bld [.ae, .ae,(.bool false)] []), .mk none .none (.eff (.store 3 (sL 1) (eV 10))),mvS 2 (.mv (.const (.bool false)))]) .ret) .skip)) (.seq (.reg [ceS 11 0,nlE 12 11,faE 13 0 12,ldE 14 13,mvE 15 (.aP 3 (eV 14) (.const (.int .i64 0))),mvE 16 (.ldn 3 (eV 15)), .mk none .none (.eff (.store 3 (sL 1) (eV 16))),mvS 2 (.mv (.const (.bool true)))]) .ret))),[.fG 3 (sL 1), .slot (sL 2)]⟩
def kJ:BF:=⟨27,[0,1,4,5,18],(.seq (.reg [ceS 7 0,clE 8 132 [eV 7],ceE 6 8,exE 9 0 6,exE 10 1 6, .mk none (.slot 2) (.eff (.alloc [.ae, .ae,(.bool false)])), .mk none .none (.eff (.store 3 (sL 2) (eV 9))),csE 3 10]) (.seq (.reg [ceS 11 3,ceE 12 11, .mk (some ((eV 12),true)) (.env 13) (.mov (.mv (sL 1))), .mk (some ((eV 12),true)) (.env 14) (.mov (.aG 0 (sL 2))), .mk (some ((eV 12),true)) (.env 15) (.mov (.ld1 (eV 14))), .mk (some ((eV 12),true)) (.env 16) (.call 147 [eV 13,eV 15]), .mk (some ((eV 12),true)) (.env 17) (.mov (.jd (eV 16))),mvS 4 (.pick (eV 12) (eV 17) (.const (.bool false)))]) (.cond (sL 4) (.reg [ceS 19 0,ceS 20 0,nlE 21 20,faE 22 0 21,ldE 23 22,mvE 24 (.sl 3 (eV 23) (some (.const (.int .i64 1))) none none),nlE 25 19,faE 26 0 25, .mk none .none (.eff (.store 1 (eV 26) (eV 24)))]) .skip))),[]⟩
def jc:BF:=⟨37,[0,2,3,4,5,7,8,9,10,11,12,13,32],(.seq (.reg [.mk none (.slot 1) (.eff (.alloc [.ae, .ae,(.bool false)])),mvS 2 (.mv (.const (.bool false)))]) (.seq (.reg [.mk none (.slot 3) (.eff (.alloc [.ae, .ae,(.bool false)]))]) (.seq (.reg [mvS 4 (.mv (.const (.bool false)))]) (.seq (.seq (.reg [mvS 8 (.mv (sL 0)),mvS 9 (.ah (sL 8)),mvS 10 (.mv (.const (.int .i64 0)))]) (.block 0 (.loop (.seq (.reg [mvS 11 (.bin .lss .no (sL 10) (sL 9))]) (.seq (.cond (sL 11) .skip (.exit 0)) (.seq (.block 1 (.seq (.reg [mvE 14 (.aP 1 (sL 8) (sL 10)),ldE 15 14,csE 5 15]) (.seq (.reg [ceS 17 5, .mk none (.env 18) (.qO (eV 17) []),ceE 16 18,exE 19 0 16,exE 20 1 16, .mk none (.slot 6) (.eff (.alloc [.ae, .ae,(.bool false)])), .mk none .none (.eff (.store 3 (sL 6) (eV 19))),csE 7 20]) (.seq (.reg [ceS 21 7,ceE 22 21, .mk (some ((eV 22),true)) (.env 23) (.mov (.mv (sL 4))), .mk (some ((eV 22),true)) (.env 24) (.mov (.jd (eV 23))), .mk (some ((eV 22),true)) (.env 25) (.mov (.mv (eV 24))), .mk (some ((eV 25),false)) (.env 26) (.mov (.aG 0 (sL 6))), .mk (some ((eV 25),false)) (.env 27) (.mov (.ld1 (eV 26))), .mk (some ((eV 25),false)) (.env 28) (.mov (.aG 0 (sL 3))), .mk (some ((eV 25),false)) (.env 29) (.mov (.ld1 (eV 28))), .mk (some ((eV 25),false)) (.env 30) (.call 147 [eV 27,eV 29]), .mk (some ((eV 22),true)) (.env 31) (.mov (.pick (eV 25) (.const (.bool true)) (eV 30))),mvS 12 (.pick (eV 22) (eV 31) (.const (.bool false)))]) (.cond (sL 12) (.reg [mvE 33 (.ldn 3 (sL 6)), .mk none .none (.eff (.store 3 (sL 3) (eV 33))),mvS 4 (.mv (.const (.bool true)))]) .skip))))) (.reg [mvE 34 (.bin .add .no (sL 10) (.const (.int .i64 1))),csE 10 34]))))))) (.seq (.reg [mvE 35 (.ldn 3 (sL 3)),ceS 36 4, .mk none .none (.eff (.store 3 (sL 1) (eV 35))),csE 2 36]) .ret))))),[.fG 3 (sL 1), .slot (sL 2)]⟩
def kK:BF:=⟨57,[0,2,3,4,6,7,8,9,10,12,13,14,15,16,39,46,47,48,49],(.seq (.reg [mvS 1 (.mv (.const .ae))]) (.seq (.reg [mvS 2 (.mv (.const .ae))]) (.seq (.reg [mvS 3 (.mv (.const .ae))]) (.seq (.seq (.reg [mvS 10 (.mv (sL 0)),mvS 11 (.ah (sL 10)),mvS 12 (.mv (.const (.int .i64 0)))]) (.block 0 (.loop (.seq (.reg [mvS 13 (.bin .lss .no (sL 12) (sL 11))]) (.seq (.cond (sL 13) .skip (.exit 0)) (.seq (.block 1 (.seq (.reg [mvE 17 (.aP 1 (sL 10) (sL 12)),ldE 18 17,csE 4 18]) (.seq (.reg [ceS 19 4,mvE 20 (.bld [.ae] [(0,1,(eV 19))]),efE 21 (.box (eV 20)),csE 5 21]) (.reg [ceS 22 2,ceS 23 5,mvE 24 (.yM 132 [eV 23]),efE 25 (.aF 1 1 [.qJ] [(0,1,(eV 24))]),efE 26 (.append 1 8 (eV 22) (eV 25)),ceS 27 3,ceS 28 5,mvE 29 (.yM 133 [eV 28]),efE 30 (.aF 1 1 [.qJ] [(0,1,(eV 29))]),efE 31 (.append 1 8 (eV 27) (eV 30)),csE 2 26,csE 3 31])))) (.reg [mvE 32 (.bin .add .no (sL 12) (.const (.int .i64 1))),csE 12 32]))))))) (.seq (.reg [mvS 6 (.mv (.const .ae))]) (.block 2 (.loop (.block 3 (.seq (.reg [ceS 34 2,clE 35 134 [eV 34],ceE 33 35,exE 36 0 33,exE 37 1 33, .mk none (.slot 7) (.eff (.alloc [.ae, .ae,(.bool false)])), .mk none .none (.eff (.store 3 (sL 7) (eV 36))),csE 8 37]) (.seq (.seq (.reg [ceS 38 8,mvS 14 (.jd (eV 38))]) (.cond (sL 14) (.seq (.reg [ceS 40 6,csE 1 40]) .ret) .skip)) (.seq (.reg [ceS 41 6,mvE 42 (.ldn 3 (sL 7)),clE 43 131 [eV 42],efE 44 (.aF 3 1 [.ae, .ae,(.bool false)] [(0,3,(eV 43))]),efE 45 (.append 3 56 (eV 41) (eV 44)),csE 6 45]) (.seq (.reg [mvS 15 (.mv (sL 3)),mvS 16 (.ah (sL 15)),mvS 17 (.mv (.const (.int .i64 0)))]) (.block 4 (.loop (.seq (.reg [mvS 18 (.bin .lss .no (sL 17) (sL 16))]) (.seq (.cond (sL 18) .skip (.exit 4)) (.seq (.block 5 (.seq (.reg [mvE 50 (.aP 1 (sL 15) (sL 17)),ldE 51 50,csE 9 51]) (.reg [ceS 52 9,mvE 53 (.aG 0 (sL 7)),ldE 54 53, .mk none (.env 55) (.qO (eV 52) [eV 54])]))) (.reg [mvE 56 (.bin .add .no (sL 17) (.const (.int .i64 1))),csE 17 56])))))))))))))))))),[.slot (sL 1)]⟩
def kL:BF:=⟨22,[0,2,3,5,6,7,8,9,14],(.seq (.reg [mvS 1 (.mv (.const .ae))]) (.seq (.reg [mvS 2 (.mv (.const .ae))]) (.seq (.seq (.reg [mvS 4 (.mv (sL 0)),mvS 5 (.ah (sL 4)),mvS 6 (.mv (.const (.int .i64 0)))]) (.block 0 (.loop (.seq (.reg [mvS 7 (.bin .lss .no (sL 6) (sL 5))]) (.seq (.cond (sL 7) .skip (.exit 0)) (.seq (.block 1 (.seq (.reg [mvE 10 (.aP 3 (sL 4) (sL 6)),mvE 11 (.ldn 3 (eV 10)), .mk none (.slot 3) (.eff (.alloc [.ae, .ae,(.bool false)])), .mk none .none (.eff (.store 3 (sL 3) (eV 11)))]) (.seq (.reg [mvE 12 (.aG 2 (sL 3)),ldE 13 12,mvS 8 (.jd (eV 13))]) (.cond (sL 8) (.reg [ceS 15 2,mvE 16 (.ldn 3 (sL 3)),clE 17 131 [eV 16],efE 18 (.aF 3 1 [.ae, .ae,(.bool false)] [(0,3,(eV 17))]),efE 19 (.append 3 56 (eV 15) (eV 18)),csE 2 19]) .skip)))) (.reg [mvE 20 (.bin .add .no (sL 6) (.const (.int .i64 1))),csE 6 20]))))))) (.seq (.reg [ceS 21 2,csE 1 21]) .ret)))),[.slot (sL 1)]⟩
structure KgT (E:Nat->Option (Ent MD)):Prop extends KtT E where
 abj:E 131=some (.bc qp)
 head:E 132=some (.bc kH)
 pass:E 133=some (.bc kJ)
 first:E 134=some (.bc jc)
 join:E 88=some (.bc kK)
 live:E 87=some (.bc kL)
section
variable {X:Type} {h h':Hp X}
theorem aN.tail {F:Nat->Prop} {v:AV} {x:EM} {l:List EM} (a:aN h v (x::l) F):∃v',aN h v' l F/\∀{hh:Hp X} {e:En} {t:List AV} {y z:Od},y.ev e t=v->z.ev e t= .int .i64 1->(Mv.sl 3 y (some z) none none).ev e t hh=some v':=by
 obtain ⟨tri,h1,h2,h3,h4,h5⟩:=a.out
 cases tri with
 |nil=>simp at h2
 |cons q tri=>
  obtain ⟨v',k1,k2,_,k4⟩:=h1.sl (lo:=1) (hi:=(x::l).length) (by simp) (Nat.le_refl _)
  have e1:(x::l).length - 1=l.length:=by simp
  have e2:(((q::tri).flatMap f3).drop (1*3)).take (l.length*3)=tri.flatMap f3:=by
   rw [List.flatMap_cons]
   have:(f3 q++tri.flatMap f3).drop (1*3)=tri.flatMap f3:=rfl
   rw [this,List.take_of_length_le]
   rw [xn]
   simp at h2
   omega
  rw [e1,e2] at k1
  refine ⟨v',⟨tri,k1,by simpa using h2,fun i q e q1 q2=>h3 (i+1) q e (by simpa using q1) (by simpa using q2),fun k hk=>h4 k (k2 k hk),fun q hq=>h5 q (List.mem_cons_of_mem _ hq)⟩,fun {hh e t y z} hy hz=>k4 hy (.inr ⟨z,_,rfl,hz⟩) (.inl ⟨rfl,rfl⟩)⟩
structure qG (h:Hp X) (ss:List Nat) (rs:List (List EM)) (F:Nat->Prop):Prop where
 len:ss.length=rs.length
 at_:∀(i s:Nat) r,ss[i]?=some s->rs[i]?=some r->∃v,Bx h s [v]/\aN h v r F
 inj:ss.Nodup
theorem qG.keep {S F:Nat->Prop} {ss:List Nat} {rs:List (List EM)} (a:qG h ss rs F) (k:Keep S h h') (h1:∀s∈ss,¬S s) (h2:∀k,F k->¬S k):qG h' ss rs F:=
 ⟨a.len,fun i s r q1 q2=>by obtain ⟨v,b,e⟩:=a.at_ i s r q1 q2;exact ⟨v,b.keep k (h1 s (List.mem_of_getElem? q1)),e.keep k h2⟩,a.inj⟩
theorem qG.up {F:Nat->Prop} {ss:List Nat} {rs:List (List EM)} (a:qG h ss rs F) (k:Keep NoB h h'):qG h' ss rs F:=a.keep k (fun _ _ q=>q) (fun _ _ q=>q)
theorem qG.get {F:Nat->Prop} {ss:List Nat} {rs:List (List EM)} (a:qG h ss rs F) {i:Nat} {r:List EM} (hr:rs[i]?=some r):∃s v,ss[i]?=some s/\Bx h s [v]/\aN h v r F:=by
 have hi:=(List.getElem?_eq_some_iff.1 hr).1
 have hs:ss[i]?=some (ss[i]'(by rw [a.len];exact hi)):=List.getElem?_eq_getElem _
 obtain ⟨v,b,e⟩:=a.at_ i _ r hs hr
 exact ⟨_,v,hs,b,e⟩
theorem qG.snoc {F:Nat->Prop} {ss:List Nat} {rs:List (List EM)} {s:Nat} {r:List EM} {v:AV} (a:qG h ss rs F) (hs:s∉ss) (b:Bx h s [v]) (e:aN h v r F):qG h (ss++[s]) (rs++[r]) F:=by
 refine ⟨by simp [a.len],fun i s' r' q1 q2=> ?_, ?_⟩
 ·by_cases hi:i < ss.length
  ·rw [List.getElem?_append_left hi] at q1
   rw [List.getElem?_append_left (by rw [<-a.len];exact hi)] at q2
   exact a.at_ i s' r' q1 q2
  ·rw [List.getElem?_append_right (by omega)] at q1
   rw [List.getElem?_append_right (by rw [<-a.len];omega),<-a.len] at q2
   have hi2:=(List.getElem?_eq_some_iff.1 q1).1
   simp at hi2
   have e0:i - ss.length=0:=by omega
   rw [e0] at q1 q2
   simp at q1 q2
   subst q1 q2
   exact ⟨v,b,e⟩
 ·rw [List.nodup_append]
  exact ⟨a.inj,by simp,fun x hx y hy=>by simp at hy;subst hy;intro e;subst e;exact hs hx⟩
theorem OE.SK {S F:Nat->Prop} {v:AV} {l:List EM} {lo:Nat} (a:OE h v l lo F) (k:Keep S h h') (hs:∀k,S k->k < lo) (hF:∀k,F k->lo<=k):OE h' v l lo F:=by
 obtain ⟨tri,h1,h2,h3,h4,h5⟩:=a.out
 refine ⟨tri,h1.keep k (fun j hj q=>by have:=hs j q;have:=h4 j hj;omega),h2,fun i q e q1 q2=>(h3 i q e q1 q2).keep k (fun j hj q'=> ?_),h4,h5⟩
 have:=hs j q'
 have:=hF j (h5 q (List.mem_of_getElem? q1) j hj).1
 omega
end
section
variable {E:Nat->Option (Ent MD)}
set_option maxHeartbeats 4000000 in
theorem head_ok (hE:∀f e,E f=some e->e.plain) (T:KgT E) {h:Hp MD} {s:Nat} {v:AV} {r:List EM} {F:Nat->Prop} (b:Bx h s [v]) (en:aN h v r F):
  WF (lim E) 132 [.ptr s 0] h fun w h'=>Keep NoB h h'/\match r with
   |[]=>w= .tup [.agg [.ae, .ae, .bool false], .bool false]
   |x::_=>∃q,w= .tup [.agg (f3 q), .bool true]/\eH h q x/\∀k,blk q.1 k\/blk q.2.1 k->F k:=by
 obtain ⟨tri,hr,htl,hq,_,hF⟩:=en.out
 refine aC hE T.head rfl ?_
 simp only [kH,mvE,mvS,clE,efE,ceS,ceE,csE,faE,nlE,ldE,lnE,exE,eV,sL,kI,List.map,getS]
 have b1:Bx (h.push (.rw [.ae, .ae, .bool false])) h.n _:=aH
 have k1:Keep NoB h (h.push (.rw [.ae, .ae, .bool false])):=Keep.push _ _ _
 have bs:=b.up k1
 obtain ⟨h1,hh1⟩:∃h1:Hp MD,h1=h.push (.rw [.ae, .ae, .bool false]):=⟨_,rfl⟩
 rw [<-hh1] at b1 k1 bs
 have kq:∀c:AB MD,Keep NoB h (h1.put h.n c):=fun c=>k1.own (Keep.put (S:=az h.n) _ _ _ rfl) (fun k q=>by have q:k=h.n:=q;omega)
 cases r with
 |nil=>
  have h0:(([]:List EM).length:Int)=0:=rfl
  have hr1:=hr.up k1
  repeat first|refine ZA ?_|refine BQ ?_
  refine aJ (h':=h1) (by rw [hh1];first|done|rfl) ?_
  repeat first|refine ZA ?_|refine BV (ak rfl) ?_|refine BV (au bs rfl rfl) ?_|refine BV (hr1.ah (by rfl)) ?_|refine BW (aV b1 rfl rfl rfl rfl (Nat.le_refl _)) ?_|refine BP ?_|refine BQ ?_
  exact AT (ny rfl b1.put rfl rfl) ⟨kq _,rfl⟩
 |cons x r=>
  obtain ⟨q,hqi⟩:∃q,tri[0]?=some q:=⟨_,List.getElem?_eq_getElem (by rw [htl];simp)⟩
  have hv:=hq 0 q x hqi rfl
  obtain ⟨ga,oa,pa,_,na⟩:=hr.at3 hqi
  have na:∀{e:En} {t:List AV} {x:Od},x.ev e t= .ptr ga oa->(Mv.ldn 3 x).ev e t h1=some (.agg (f3 q)):=fun {_ _ _} hx=>na k1 (fun _ _ q=>q) hx
  have hr1:=hr.up k1
  have h0:¬((x::r).length:Int)=0:=by simp;omega
  obtain ⟨qa,qb,qc⟩:=q
  have hall:allOne [qa,qb, .bool qc]=true:=aX hv.key.one.2 hv.val.one.2 rfl
  repeat first|refine ZA ?_|refine BQ ?_
  refine aJ (h':=h1) (by rw [hh1];first|done|rfl) ?_
  repeat first|refine ZA ?_|refine BV (ak rfl) ?_|refine BV (au bs rfl rfl) ?_|refine BV (hr1.ah (by rfl)) ?_|refine BV (pa rfl rfl) ?_|refine BV (na rfl) ?_|refine BW (aV b1 rfl rfl hall rfl (Nat.le_refl _)) ?_|refine BP ?_|refine BQ ?_
  exact AT (ny (l:=[qa,qb, .bool qc]) rfl b1.put rfl rfl) ⟨kq _,(qa,qb,qc),rfl,hv,hF _ (List.mem_of_getElem? hqi)⟩
set_option maxHeartbeats 4000000 in
theorem Xj (hE:∀f e,E f=some e->e.plain) (T:KgT E) {h:Hp MD} {s:Nat} {v:AV} {r:List EM} {F:Nat->Prop} (b:Bx h s [v]) (en:aN h v r F) (hF:¬F s) {kv:AV} {key:List UInt8} (hk:RS h 1 kv key.length (key.map ub)):
  WF (lim E) 133 [.ptr s 0,kv] h fun _ h'=>Keep (az s) h h'/\∃v',Bx h' s [v']/\aN h' v' (jm key r) F:=by
 refine aC hE T.pass rfl ?_
 simp only [kJ,mvE,mvS,clE,efE,ceS,ceE,csE,faE,nlE,ldE,lnE,exE,eV,sL,kI,List.map,getS]
 have hb:=b.lt
 repeat first|refine ZA ?_|refine BP ?_|refine BQ ?_
 refine ag rfl ((head_ok hE T b en).mono fun w h1 ⟨k1,e1⟩=> ?_)
 have n1:=k1.n
 have b1:=b.up k1
 have en1:=en.up k1
 have hk1:=hk.up k1
 cases r with
 |nil=>
  have e1:w= .tup [.agg [.ae, .ae, .bool false], .bool false]:=e1
  subst e1
  have b2:Bx (h1.push (.rw [.ae, .ae, .bool false])) h1.n _:=aH
  have k2:Keep NoB h1 (h1.push (.rw [.ae, .ae, .bool false])):=Keep.push _ _ _
  have kq:Keep (az h1.n) (h1.push (.rw [.ae, .ae, .bool false])) ((h1.push (.rw [.ae, .ae, .bool false])).put h1.n (.rw [.ae, .ae, .bool false])):=Keep.put _ _ _ rfl
  repeat first|refine ZA ?_|refine BW (aV b2 rfl rfl rfl rfl (Nat.le_refl _)) ?_|refine BP ?_|refine BQ ?_
  have K:Keep NoB h ((h1.push (.rw [.ae, .ae, .bool false])).put h1.n (.rw [.ae, .ae, .bool false])):=(k1.and k2).own kq (fun k q=>by have q:k=h1.n:=q;omega)
  exact ⟨K.any,v,b.up K,en.up K⟩
 |cons x r=>
  obtain ⟨q,e1,hv,hqF⟩:∃q,w= .tup [.agg (f3 q), .bool true]/\eH h q x/\∀k,blk q.1 k\/blk q.2.1 k->F k:=e1
  subst e1
  have hv1:=hv.up k1
  obtain ⟨qa,qb,qc⟩:=q
  have hall:allOne (f3 (qa,qb,qc))=true:=aX hv.key.one.2 hv.val.one.2 rfl
  have b2:Bx (h1.push (.rw [.ae, .ae, .bool false])) h1.n _:=aH
  have k2:Keep NoB h1 (h1.push (.rw [.ae, .ae, .bool false])):=Keep.push _ _ _
  have b3:Bx ((h1.push (.rw [.ae, .ae, .bool false])).put h1.n (.rw [qa,qb, .bool qc])) h1.n [qa,qb, .bool qc]:=b2.put
  have kq:Keep (az h1.n) (h1.push (.rw [.ae, .ae, .bool false])) ((h1.push (.rw [.ae, .ae, .bool false])).put h1.n (.rw [qa,qb, .bool qc])):=Keep.put _ _ _ rfl
  have K:Keep NoB h ((h1.push (.rw [.ae, .ae, .bool false])).put h1.n (.rw [qa,qb, .bool qc])):=(k1.and k2).own kq (fun k q=>by have q:k=h1.n:=q;omega)
  repeat first|refine ZA ?_|refine BW (aV b2 rfl rfl hall rfl (Nat.le_refl _)) ?_|refine BP ?_|refine BQ ?_
  obtain ⟨h2,hh2⟩:∃h2:Hp MD,h2=(h1.push (.rw [.ae, .ae, .bool false])).put h1.n (.rw [qa,qb, .bool qc]):=⟨_,rfl⟩
  refine aJ (h':=h2) (by rw [hh2];first|done|rfl) ?_
  rw [<-hh2] at b3 K
  clear kq b2 hh2
  have hv2:=(hv.up K).key
  have hk2:=hk.up K
  simp only at hv2
  repeat first|refine ZA ?_|refine BV (au b3 rfl rfl) ?_|refine BP ?_|refine BQ ?_
  refine ag rfl ((tJ hE T.less T.Ou hk2 hv2).mono fun w h3 ⟨e3,e4⟩=> ?_)
  subst e3 e4
  have b4:=b.up K
  obtain ⟨v',en',sl⟩:=(en.up K).tail
  have h1v:=en'.one
  cases hc:bl key x.key with
  |true=>
   repeat first|refine ZA ?_|refine BV (di rfl) ?_|refine BP ?_|refine BQ ?_
   refine ⟨K.any,v,b4, ?_⟩
   rw [wz hc]
   exact en.up K
  |false=>
   repeat first|refine ZA ?_|refine BV (di rfl) ?_|refine BV (ak rfl) ?_|refine BV (au b4 rfl rfl) ?_|refine BV (sl rfl rfl) ?_|refine BW (fQ b4 rfl rfl h1v (Nat.zero_lt_succ _)) ?_|refine BP ?_|refine BQ ?_
   have kr:Keep (az s) h3 (h3.put s (.rw [v'])):=Keep.put _ _ _ rfl
   refine ⟨K.any.trans kr (fun _ _ q=>q),v',b4.put, ?_⟩
   rw [wB hc]
   exact en'.keep kr (fun k q1 q2=>hF (by have q2:k=s:=q2;rwa [q2] at q1))
end
def Dq (s:Nat):AV:= .meth 132 [.ptr s 0]
def Ik (s:Nat):AV:= .meth 133 [.ptr s 0]
theorem acp {X:Type} (h:Hp X) (A B:List AV):Bx ((h.push (.rw A)).push (.rw B)) h.n A/\Bx ((h.push (.rw A)).push (.rw B)) (h.push (.rw A)).n B/\Keep NoB h ((h.push (.rw A)).push (.rw B)):=
 ⟨aH.up (Keep.push _ _ _),aH,(Keep.push NoB h (.rw A)).and (Keep.push NoB _ (.rw B))⟩
theorem zT {α:Type} {o:Option α}:(∃x,o=some x)\/o=none:=by cases o with|none=>exact .inr rfl|some x=>exact .inl ⟨x,rfl⟩
section
variable {E:Nat->Option (Ent MD)}
structure Least (h:Hp MD) (g:Nat) (o:Option EM) (F:Nat->Prop):Prop where
 out:∃q:T3,Bx h g (f3 q)/\allOne (f3 q)=true/\match o with
  |some x=>eH h q x/\∀k,blk q.1 k\/blk q.2.1 k->F k
  |none=>q=(.ae, .ae,false)
theorem Least.keep {S F:Nat->Prop} {h h':Hp MD} {g:Nat} {o:Option EM} (a:Least h g o F) (k:Keep S h h') (hg:¬S g) (hF:∀k,F k->¬S k):Least h' g o F:=by
 obtain ⟨q,b,al,e⟩:=a.out
 refine ⟨q,b.keep k hg,al, ?_⟩
 cases o with
 |none=>exact e
 |some x=>exact ⟨e.1.keep k (fun j hj=>hF j (e.2 j hj)),e.2⟩
set_option maxHeartbeats 8000000 in
theorem TC (hE:∀f e,E f=some e->e.plain) (T:KgT E) {h:Hp MD} {hv:AV} {ss:List Nat} {rs:List (List EM)} {F:Nat->Prop} (S:qG h ss rs F) (hF:∀k,F k->k < h.n) (hh:RS h 1 hv ss.length (ss.map Dq)) (hl:ss.length<=1000000):
  WF (lim E) 134 [hv] h fun w h'=>Keep NoB h h'/\match gW rs with
   |some x=>∃q,w= .tup [.agg (f3 q), .bool true]/\eH h' q x/\∀k,blk q.1 k\/blk q.2.1 k->F k
   |none=>∃q:T3,w= .tup [.agg (f3 q), .bool false]/\allOne (f3 q)=true:=by
 refine aC hE T.first rfl ?_
 simp only [jc,mvE,mvS,clE,efE,ceS,ceE,csE,faE,nlE,ldE,lnE,exE,eV,sL,kI,List.map,getS]
 have hmx:(maxLen:Nat)=9223372036854775807:=rfl
 obtain ⟨b1,b2,kb⟩:=acp h [.ae, .ae, .bool false] [.ae, .ae, .bool false]
 have hh0:=hh.up kb
 obtain ⟨h1,hh1⟩:∃h1:Hp MD,h1=(h.push (.rw [.ae, .ae, .bool false])).push (.rw [.ae, .ae, .bool false]):=⟨_,rfl⟩
 have hn1:h1.n=h.n+2:=by rw [hh1];rfl
 rw [<-hh1] at b1 b2 kb hh0
 have b2:Bx h1 (h.n+1) [.ae, .ae, .bool false]:=b2
 repeat first|refine ZA ?_|refine BQ ?_
 refine aJ (h':=h1) (by rw [hh1];first|done|rfl) ?_
 repeat first|refine ZA ?_|refine BV (hh0.ah (by rfl)) ?_|refine BP ?_|refine BQ ?_
 clear hh1
 refine aQ (fun n t g=>∃(i:Nat) (s5 s6 s7 s11 s12:AV),i<=ss.length/\n=ss.length - i/\Keep NoB h g/\h.n+2<=g.n/\Bx g h.n [.ae, .ae, .bool false]/\Least g (h.n+1) (gW (rs.take i)) F/\
  t=[hv, .ptr h.n 0, .bool false, .ptr (h.n+1) 0, .bool (gW (rs.take i)).isSome,s5,s6,s7,hv, .int .i64 ss.length, .int .i64 i,s11,s12]) ?_ ss.length _ _ ⟨0,_,_,_,_,_,by omega,by omega,kb,by omega,b1,⟨(.ae, .ae,false),b2,rfl,rfl⟩,rfl⟩
 rintro n t g ⟨i,s5,s6,s7,s11,s12,hi,hn,K,hgn,bb,L,rfl⟩
 have hhg:=hh.up K
 by_cases hlt:i < ss.length
 ·obtain ⟨r,hr⟩:∃r,rs[i]?=some r:=⟨_,List.getElem?_eq_getElem (by rw [<-S.len];exact hlt)⟩
  obtain ⟨s,v,hs,bs,es⟩:=S.get hr
  obtain ⟨ga,oa,pa,la⟩:=hhg.at2 hlt
  have la:∀{e:En} {t:List AV} {x:Od},x.ev e t= .ptr ga oa->(Mv.ld1 x).ev e t g=some (Dq s):=fun {_ _ _} hx=>by rw [la (Keep.refl NoB _) (fun _ _ q=>q) hx,List.getElem?_map,hs];rfl
  have hbs:=Me hr
  repeat first|refine ZA ?_|refine BV (pa rfl rfl) ?_|refine BV (la rfl) ?_|refine BP ?_|refine BQ ?_
  refine yH rfl rfl ((head_ok hE T (bs.up K) (es.up K)).mono fun w g2 ⟨k2,e2⟩=> ?_)
  have L2:=L.keep k2 (fun q=>q) (fun _ _ q=>q)
  have K2:=K.and k2
  have bb2:=bb.up k2
  have n2:=k2.n
  have b3:Bx (g2.push (.rw [.ae, .ae, .bool false])) g2.n _:=aH
  have k3:Keep NoB g2 (g2.push (.rw [.ae, .ae, .bool false])):=Keep.push _ _ _
  cases r with
  |nil=>
   have e2:w= .tup [.agg [.ae, .ae, .bool false], .bool false]:=e2
   subst e2
   have kq:Keep (az g2.n) (g2.push (.rw [.ae, .ae, .bool false])) ((g2.push (.rw [.ae, .ae, .bool false])).put g2.n (.rw [.ae, .ae, .bool false])):=Keep.put _ _ _ rfl
   have k4:Keep NoB g2 ((g2.push (.rw [.ae, .ae, .bool false])).put g2.n (.rw [.ae, .ae, .bool false])):=k3.own kq (fun k q=>by have q:k=g2.n:=q;omega)
   have e:gW (rs.take (i+1))=gW (rs.take i):=by rw [hbs];rfl
   repeat first|refine ZA ?_|refine BW (aV b3 rfl rfl rfl rfl (Nat.le_refl _)) ?_|refine BP ?_|refine BQ ?_
   rw [show ((i:Int)+1)=((i+1:Nat):Int) by omega]
   refine aj (n - 1) (by omega) ⟨i+1,_,_,_,_,_,by omega,by omega,K2.and k4,by simp only [qZ,bJ];omega,bb2.up k4,by rw [e];exact L2.keep k4 (fun q=>q) (fun _ _ q=>q),by rw [e]⟩
  |cons x r=>
   obtain ⟨q,e2,hv2,hqF⟩:∃q,w= .tup [.agg (f3 q), .bool true]/\eH g q x/\∀k,blk q.1 k\/blk q.2.1 k->F k:=e2
   subst e2
   obtain ⟨qa,qb,qc⟩:=q
   have hall:allOne (f3 (qa,qb,qc))=true:=aX hv2.key.one.2 hv2.val.one.2 rfl
   have kq:Keep (az g2.n) (g2.push (.rw [.ae, .ae, .bool false])) ((g2.push (.rw [.ae, .ae, .bool false])).put g2.n (.rw [qa,qb, .bool qc])):=Keep.put _ _ _ rfl
   have k4:Keep NoB g2 ((g2.push (.rw [.ae, .ae, .bool false])).put g2.n (.rw [qa,qb, .bool qc])):=k3.own kq (fun k q=>by have q:k=g2.n:=q;omega)
   have b4:Bx ((g2.push (.rw [.ae, .ae, .bool false])).put g2.n (.rw [qa,qb, .bool qc])) g2.n [qa,qb, .bool qc]:=b3.put
   have e:gW (rs.take (i+1))=match gW (rs.take i) with|none=>some x|some y=>if bl x.key y.key then some x else some y:=by rw [hbs];rfl
   repeat first|refine ZA ?_|refine BV (di rfl) ?_|refine BW (aV b3 rfl rfl hall rfl (Nat.le_refl _)) ?_|refine BP ?_|refine BQ ?_
   obtain ⟨g4,hg4⟩:∃g4:Hp MD,g4=(g2.push (.rw [.ae, .ae, .bool false])).put g2.n (.rw [qa,qb, .bool qc]):=⟨_,rfl⟩
   refine aJ (h':=g4) (by rw [hg4];first|done|rfl) ?_
   rw [<-hg4] at b4 k4
   clear kq hg4
   have L4:=L2.keep k4 (fun q=>q) (fun _ _ q=>q)
   have K4:=K2.and k4
   have bb4:=bb2.up k4
   have n4:=k4.n
   have hv4:=(hv2.up k2).up k4
   have nxt:∀{g5:Hp MD} {o:Option EM} {s5 s6 s7 s11 s12:AV},Keep NoB h g5->h.n+2<=g5.n->Bx g5 h.n [.ae, .ae, .bool false]->Least g5 (h.n+1) o F->(match gW (rs.take i) with|none=>some x|some y=>if bl x.key y.key then some x else some y)=o->
     ∃(j:Nat) (t5 t6 t7 t11 t12:AV),j<=ss.length/\n - 1=ss.length - j/\Keep NoB h g5/\h.n+2<=g5.n/\Bx g5 h.n [.ae, .ae, .bool false]/\Least g5 (h.n+1) (gW (rs.take j)) F/\
      [hv, .ptr h.n 0, .bool false, .ptr (h.n+1) 0, .bool o.isSome,s5,s6,s7,hv, .int .i64 ss.length, .int .i64 ((i:Int)+1),s11,s12]=[hv, .ptr h.n 0, .bool false, .ptr (h.n+1) 0, .bool (gW (rs.take j)).isSome,t5,t6,t7,hv, .int .i64 ss.length, .int .i64 j,t11,t12]:=fun {g5 o s5 s6 s7 s11 s12} a b c d ho=>by
    rw [show ((i:Int)+1)=((i+1:Nat):Int) by omega]
    exact ⟨i+1,_,_,_,_,_,by omega,by omega,a,b,c,by rw [e,ho];exact d,by rw [e,ho]⟩
   have put:∀{l0:List AV},Bx g4 (h.n+1) l0->l0.length=3->Least (g4.put (h.n+1) (.rw [qa,qb, .bool qc])) (h.n+1) (some x) F/\Keep NoB h (g4.put (h.n+1) (.rw [qa,qb, .bool qc]))/\Bx (g4.put (h.n+1) (.rw [qa,qb, .bool qc])) h.n [.ae, .ae, .bool false]:=fun {l0} b0 _=>by
    have kw:Keep (az (h.n+1)) g4 (g4.put (h.n+1) (.rw [qa,qb, .bool qc])):=Keep.put _ _ _ rfl
    exact ⟨⟨(qa,qb,qc),b0.put,hall,hv4.keep kw (fun k q1 q2=>by have:=hF k (hqF k q1);have q2:k=h.n+1:=q2;omega),hqF⟩,K4.own kw (fun k q=>by have q:k=h.n+1:=q;omega),bb4.iQ (by omega)⟩
   obtain ⟨q0,bq,al,hq0⟩:=L4.out
   obtain ⟨ka,kb',kc⟩:=q0
   rcases zT (o:=gW (rs.take i)) with ⟨y,hy⟩|hy
   ·rw [hy] at hq0 nxt ⊢
    have hk4:=hv4.key
    have hy4:=hq0.1.key
    simp only at hk4 hy4
    repeat first|refine ZA ?_|refine BV (di rfl) ?_|refine BV (au b4 rfl rfl) ?_|refine BV (au bq rfl rfl) ?_|refine BP ?_|refine BQ ?_
    refine ag rfl ((tJ hE T.less T.Ou hk4 hy4).mono fun w g5 ⟨e5,e6⟩=> ?_)
    subst e5 e6
    cases hc:bl x.key y.key with
    |true=>
     obtain ⟨p1,p2,p3⟩:=put bq rfl
     repeat first|refine ZA ?_|refine BV (dh b4 rfl (Nat.le_refl _)) ?_|refine BW (aV bq rfl rfl hall rfl (Nat.le_refl _)) ?_|refine BP ?_|refine BQ ?_
     exact aj (n - 1) (by omega) (nxt (o:=some x) p2 (by simp only [qZ];omega) p3 p1 (by simp [hc]))
    |false=>
     repeat first|refine ZA ?_|refine BP ?_|refine BQ ?_
     exact aj (n - 1) (by omega) (nxt (o:=some y) K4 (by omega) bb4 (hy▸L4) (by simp [hc]))
   ·rw [hy] at hq0 nxt ⊢
    obtain ⟨p1,p2,p3⟩:=put bq rfl
    repeat first|refine ZA ?_|refine BV (di rfl) ?_|refine BV (dh b4 rfl (Nat.le_refl _)) ?_|refine BW (aV bq rfl rfl hall rfl (Nat.le_refl _)) ?_|refine BP ?_|refine BQ ?_
    exact aj (n - 1) (by omega) (nxt (o:=some x) p2 (by simp only [qZ];omega) p3 p1 rfl)
 ·have e:rs.take i=rs:=List.take_of_length_le (by have:=S.len;omega)
  rw [e] at L ⊢
  obtain ⟨q0,bq,al,hq0⟩:=L.out
  obtain ⟨ka,kb',kc⟩:=q0
  repeat first|refine ZA ?_|refine BV (dh bq rfl (Nat.le_refl _)) ?_|refine BW (aV bb rfl rfl al rfl (Nat.le_refl _)) ?_|refine BP ?_|refine BQ ?_
  have kw:Keep (az h.n) g (g.put h.n (.rw [ka,kb', .bool kc])):=Keep.put _ _ _ rfl
  refine AT (ny (l:=[ka,kb', .bool kc]) rfl bb.put rfl rfl) ⟨K.own kw (fun k q=>by have q:k=h.n:=q;omega), ?_⟩
  rcases zT (o:=gW rs) with ⟨y,hy⟩|hy
  ·rw [hy] at hq0 ⊢
   exact ⟨(ka,kb',kc),rfl,hq0.1.keep kw (fun k q1 q2=>by have:=hF k (hq0.2 k q1);have q2:k=h.n:=q2;omega),hq0.2⟩
  ·rw [hy]
   exact ⟨(ka,kb',kc),rfl,al⟩
end
theorem Il {f:List EM->List EM}:∀{l:List (List EM)} {j:Nat} {r:List EM},l[j]?=some r->((l.take j).map f++l.drop j).set j (f r)=(l.take (j+1)).map f++l.drop (j+1)
 |[],j,r,h=>by simp at h
 |x::l,0,r,h=>by simp at h;subst h;simp
 |x::l,j+1,r,h=>by
  simp at h
  have ih:=Il (f:=f) h
  simp only [List.take_succ_cons,List.map_cons,List.drop_succ_cons,List.cons_append,List.set_cons_succ,ih]
theorem TE {f:List EM->List EM} {l:List (List EM)} {j:Nat} {r:List EM} (h:l[j]?=some r):((l.take j).map f++l.drop j)[j]?=some r:=by
 have hj:=(List.getElem?_eq_some_iff.1 h).1
 rw [List.getElem?_append_right (by simp;omega),List.length_map,List.length_take,Nat.min_eq_left (by omega),Nat.sub_self,List.getElem?_drop,Nat.add_zero]
 exact h
theorem qG.step {h h':Hp MD} {ss:List Nat} {rs:List (List EM)} {F:Nat->Prop} (a:qG h ss rs F) {j s:Nat} {r:List EM} {v:AV} (hs:ss[j]?=some s) (k:Keep (az s) h h') (b:Bx h' s [v]) (e:aN h' v r F) (hF:¬F s):qG h' ss (rs.set j r) F:=by
 refine ⟨by rw [List.length_set];exact a.len,fun i s' r' q1 q2=> ?_,a.inj⟩
 by_cases hij:i=j
 ·subst hij
  rw [hs] at q1
  cases q1
  have hl:=(List.getElem?_eq_some_iff.1 q2).1
  rw [List.length_set] at hl
  rw [List.getElem?_set_self hl] at q2
  cases q2
  exact ⟨v,b,e⟩
 ·rw [List.getElem?_set_ne (Ne.symm hij)] at q2
  obtain ⟨w,c,en⟩:=a.at_ i s' r' q1 q2
  refine ⟨w,c.keep k (fun q=> ?_),en.keep k (fun j q1 q2=>hF (by have q2:j=s:=q2;rwa [q2] at q1))⟩
  have q:s'=s:=q
  subst q
  obtain ⟨h1,h2⟩:=List.getElem?_eq_some_iff.1 q1
  obtain ⟨h3,h4⟩:=List.getElem?_eq_some_iff.1 hs
  rcases Nat.lt_trichotomy i j with h|h|h
  ·exact List.pairwise_iff_getElem.1 a.inj i j h1 h3 h (h2.trans h4.symm)
  ·exact hij h
  ·exact List.pairwise_iff_getElem.1 a.inj j i h3 h1 h (h4.trans h2.symm)
def szE (e:EM):Prop:=1<=e.key.length/\e.key.length<=255/\e.val.length<=4095
theorem TF {k:Bs} {r:List EM} {e:EM} (h:e∈jm k r):e∈r:=by
 cases r with
 |nil=>cases h
 |cons x r=>
  cases hc:bl k x.key with
  |true=>rw [wz hc] at h;exact h
  |false=>rw [wB hc] at h;exact List.mem_cons_of_mem _ h
theorem TG {rs:List (List EM)} {x:EM} (h:gW rs=some x):∃r∈rs,x∈r:=by
 have hb:=EU rs
 rw [h] at hb
 obtain ⟨j,r,h1,_⟩:=hb
 exact ⟨x::r,List.mem_of_getElem? h1,List.mem_cons_self ..⟩
section
variable {E:Nat->Option (Ent MD)}
set_option maxHeartbeats 16000000 in
theorem MM (hE:∀f e,E f=some e->e.plain) (T:KgT E) {h:Hp MD} {rv:AV} {rs:List (List EM)} {F:Nat->Prop} (ha:nG h rv rs F) (hr:∀r∈rs,dI r) (hz:∀r∈rs,∀e∈r,szE e) (hl:rs.length<=100000) (hj:(joinL rs).length<=1000000):
  WF (lim E) 88 [rv] h fun w h'=>Keep NoB h h'/\OE h' w (joinL rs) h.n (fun k=>h.n<=k):=by
 refine aC hE T.join rfl ?_
 simp only [kK,mvE,mvS,clE,efE,ceS,ceE,csE,faE,nlE,ldE,lnE,exE,eV,sL,kI,List.map,getS]
 have hmx:(maxLen:Nat)=9223372036854775807:=rfl
 have ha:=ha.lt.on (G:=fun k=>k < h.n) (fun k q=>q.2)
 obtain ⟨cr,rr⟩:=ha.rs
 repeat first|refine ZA ?_|refine BV (rr.ah (by rfl)) ?_|refine BP ?_|refine BQ ?_
 refine aQ (fun n t g=>∃(i:Nat) (ss:List Nat) (hv pv s4 s5 s13:AV),i<=rs.length/\n=rs.length - i/\Keep NoB h g/\qG g ss (rs.take i) (fun k=>k < h.n)/\(∀s∈ss,h.n<=s/\s < g.n)/\OS g 1 hv i (ss.map Dq)/\OS g 1 pv i (ss.map Ik)/\
  (∀k,blk hv k->h.n<=k/\k∉ss/\¬blk pv k)/\(∀k,blk pv k->h.n<=k/\k∉ss)/\
  t=[rv, .ae,hv,pv,s4,s5, .bot, .bot, .bot, .bot,rv, .int .i64 rs.length, .int .i64 i,s13, .bot, .bot, .bot, .bot, .bot]) ?_ rs.length _ _ ⟨0,[], .ae, .ae,_,_,_,by omega,by omega,Keep.refl _ _,⟨rfl,fun i s r q=>by simp at q,List.nodup_nil⟩,by simp,⟨rfl,rfl⟩,⟨rfl,rfl⟩,fun k q=>q.elim,fun k q=>q.elim,rfl⟩
 rintro n t g ⟨i,ss,hv,pv,s4,s5,s13,hi,hn,K,S,slo,oh,op,hvb,pvb,rfl⟩
 have nK:=K.n
 by_cases hlt:i < rs.length
 ·obtain ⟨r,hri⟩:∃r,rs[i]?=some r:=⟨_,List.getElem?_eq_getElem hlt⟩
  obtain ⟨ga,oa,c,ec,pa,la⟩:=ha.at hri
  have la:∀{e:En} {t:List AV} {x:Od},x.ev e t= .ptr ga oa->(Mv.ld1 x).ev e t g=some c:=fun {_ _ _} hx=>la K (fun _ _ q=>q) hx
  have c1:=ec.one
  have kb:Keep NoB g (g.push (.rw [c])):=Keep.push _ _ _
  have bb:Bx (g.push (.rw [c])) g.n [c]:=aH
  have hvl:=oh.lt
  have pvl:=op.lt
  have ssl:ss.length=i:=by rw [S.len,List.length_take];omega
  have acr:g.n∉ss:=fun q=>by have:=(slo _ q).2;omega
  have hcall:allOne [c]=true:=by unfold allOne;rw [c1.2];rfl
  have k2:Keep NoB (g.push (.rw [c])) ((g.push (.rw [c])).push (.rw [Dq g.n])):=Keep.push _ _ _
  have K2:=kb.and k2
  repeat first|refine ZA ?_|refine BV (pa rfl rfl) ?_|refine BV (la rfl) ?_|refine BV (Rx rfl c1.1) ?_|refine BW (iD rfl hcall) ?_|refine BW (dO (a:=Dq g.n) rfl rfl rfl) ?_|refine BP ?_|refine BQ ?_
  refine aA rfl rfl (oh.up K2) Nat.zero_lt_one (bH (n:=1) (z:=1) rfl) (by omega) (by omega) fun hv' g3 a1 a2 a3=> ?_
  have n3:=a2.n
  simp only [bJ] at n3
  have op3:=(op.up K2).keep a2 (fun k q1 q2=>(hvb k q2).2.2 q1)
  have S3:=(S.up K2).keep a2 (fun s hs q=>(hvb s q).2.1 hs) (fun k q1 q2=>by have:=(hvb k q2).1;omega)
  have bb3:=(bb.up k2).keep a2 (fun q=>by have:=hvl _ q;omega)
  have ec3:=(ec.up (K.and K2)).keep a2 (fun k q1 q2=>by have:=(hvb k q2).1;omega)
  have K3:Keep NoB h g3:=(K.and K2).own a2 (fun k q=>(hvb k q).1)
  have k4:Keep NoB g3 (g3.push (.rw [Ik g.n])):=Keep.push _ _ _
  repeat first|refine ZA ?_|refine BW (dO (a:=Ik g.n) rfl rfl rfl) ?_|refine BP ?_|refine BQ ?_
  refine aA rfl rfl (op3.up k4) Nat.zero_lt_one (bH (n:=1) (z:=1) rfl) (by omega) (by omega) fun pv' g5 d1 d2 d3=> ?_
  have n5:=d2.n
  simp only [bJ] at n5
  have hb3:∀k,blk hv' k->h.n<=k/\k < g3.n/\k∉ss/\k≠g.n/\¬blk pv k:=fun k q=>by
   have:=a1.lt k q
   rcases a3 k q with q|q
   ·have:=hvb k q;have:=hvl k q;exact ⟨by omega,by omega,(hvb k q).2.1,by omega,(hvb k q).2.2⟩
   ·simp only [bJ] at q
    exact ⟨by omega,by omega,fun q2=>by have:=(slo k q2).2;omega,by omega,fun q2=>by have:=pvl k q2;omega⟩
  have pb5:∀k,blk pv' k->h.n<=k/\k∉ss/\k≠g.n/\(blk pv k\/g3.n+1<=k):=fun k q=>by
   rcases d3 k q with q|q
   ·have:=pvl k q;exact ⟨(pvb k q).1,(pvb k q).2,by omega, .inl q⟩
   ·simp only [bJ] at q
    exact ⟨by omega,fun q2=>by have:=(slo k q2).2;omega,by omega, .inr q⟩
  have oh5:=(a1.up k4).keep d2 (fun k q1 q2=>(hb3 k q1).2.2.2.2 q2)
  have S5:=(S3.up k4).keep d2 (fun s hs q=>(pvb s q).2 hs) (fun k q1 q2=>by have:=(pvb k q2).1;omega)
  have bb5:=(bb3.up k4).keep d2 (fun q=>by have:=pvl _ q;omega)
  have ec5:=(ec3.up k4).keep d2 (fun k q1 q2=>by have:=(pvb k q2).1;omega)
  repeat first|refine ZA ?_|refine BP ?_|refine BQ ?_
  rw [show ((i:Int)+1)=((i+1:Nat):Int) by omega]
  refine aj (n - 1) (by omega) ⟨i+1,ss++[g.n],hv',pv',_,_,_,by omega,by omega,(K3.and k4).own d2 (fun k q=>(pvb k q).1), ?_, ?_, ?_, ?_, ?_, ?_,rfl⟩
  ·rw [take_snoc hri]
   exact S5.snoc acr bb5 ec5
  ·intro s hs
   rcases List.mem_append.1 hs with hs|hs
   ·have:=slo s hs;omega
   ·simp at hs;omega
  ·rw [List.map_append];exact oh5
  ·rw [List.map_append];exact d1
  ·intro k q
   have h1:=hb3 k q
   refine ⟨h1.1,fun q2=> ?_,fun q2=> ?_⟩
   ·rcases List.mem_append.1 q2 with q2|q2
    ·exact h1.2.2.1 q2
    ·simp at q2;exact h1.2.2.2.1 q2
   ·rcases (pb5 k q2).2.2.2 with q3|q3
    ·exact h1.2.2.2.2 q3
    ·omega
  ·intro k q
   have h1:=pb5 k q
   refine ⟨h1.1,fun q2=> ?_⟩
   rcases List.mem_append.1 q2 with q2|q2
   ·exact h1.2.1 q2
   ·simp at q2;exact h1.2.2.1 q2
 have e:i=rs.length:=by omega
 subst e
 rw [List.take_length] at S
 have ssl:=S.len
 have hvl:=oh.lt
 have pvl:=op.lt
 have oh:=oh.rs
 have op:=op.rs
 rw [<-ssl] at oh op
 repeat first|refine ZA ?_|refine BP ?_|refine BQ ?_
 refine aQ (fun n t g2=>∃(rs2:List (List EM)) (done:List EM) (ov s7 s8 s9 s14 s15 s16 s17 s18:AV),Keep NoB h g2/\g.n<=g2.n/\qG g2 ss rs2 (fun k=>k < h.n)/\RS g2 1 hv ss.length (ss.map Dq)/\RS g2 1 pv ss.length (ss.map Ik)/\(∀r∈rs2,dI r)/\(∀r∈rs2,∀e∈r,szE e)/\done++joinL rs2=joinL rs/\n=(joinL rs2).length/\
  OE g2 ov done g.n (fun k=>g.n<=k)/\t=[rv, .ae,hv,pv,s4,s5,ov,s7,s8,s9,rv, .int .i64 rs.length, .int .i64 rs.length, .bool false,s14,s15,s16,s17,s18]) ?_ (joinL rs).length _ _ ⟨rs,[], .ae,_,_,_,_,_,_,_,_,K,Nat.le_refl _,S,oh,op,hr,hz,rfl,rfl,OE.nil,rfl⟩
 clear S oh op K
 rintro n t g2 ⟨rs2,done,ov,s7,s8,s9,s14,s15,s16,s17,s18,K,hg2,S,oh,op,hr2,hz2,hdn,hn,oe,rfl⟩
 have JR:∀s∈ss,h.n<=s/\s < g.n:=slo
 repeat first|refine ZA ?_|refine BP ?_|refine BQ ?_
 refine ag rfl ((TC hE T S (fun k q=>by omega) oh (by omega)).mono fun w g3 ⟨k3,e3⟩=> ?_)
 have n3:=k3.n
 rcases zT (o:=gW rs2) with ⟨x,hx⟩|hx
 ·rw [hx] at e3
  obtain ⟨q,e3,hv3,hqF⟩:∃q,w= .tup [.agg (f3 q), .bool true]/\eH g3 q x/\∀k,blk q.1 k\/blk q.2.1 k->k < h.n:=e3
  subst e3
  have hjs:=join_some hr2 hx
  obtain ⟨rx,acs,acu⟩:=TG hx
  have hsz:=hz2 rx acs x acu
  obtain ⟨qa,qb,qc⟩:=q
  have hall:allOne (f3 (qa,qb,qc))=true:=aX hv3.key.one.2 hv3.val.one.2 rfl
  have b3:Bx (g3.push (.rw [.ae, .ae, .bool false])) g3.n _:=aH
  have k4:Keep NoB g3 (g3.push (.rw [.ae, .ae, .bool false])):=Keep.push _ _ _
  have kq:Keep (az g3.n) (g3.push (.rw [.ae, .ae, .bool false])) ((g3.push (.rw [.ae, .ae, .bool false])).put g3.n (.rw [qa,qb, .bool qc])):=Keep.put _ _ _ rfl
  have k5:Keep NoB g3 ((g3.push (.rw [.ae, .ae, .bool false])).put g3.n (.rw [qa,qb, .bool qc])):=k4.own kq (fun k q=>by have q:k=g3.n:=q;omega)
  have b5:Bx ((g3.push (.rw [.ae, .ae, .bool false])).put g3.n (.rw [qa,qb, .bool qc])) g3.n [qa,qb, .bool qc]:=b3.put
  repeat first|refine ZA ?_|refine BV (di rfl) ?_|refine BV (dh b5 rfl (Nat.le_refl _)) ?_|refine BW (aV b3 rfl rfl hall rfl (Nat.le_refl _)) ?_|refine BP ?_|refine BQ ?_
  obtain ⟨g5,hg5⟩:∃g5:Hp MD,g5=(g3.push (.rw [.ae, .ae, .bool false])).put g3.n (.rw [qa,qb, .bool qc]):=⟨_,rfl⟩
  refine aJ (h':=g5) (by rw [hg5];first|done|rfl) ?_
  rw [<-hg5] at k5 b5
  clear kq k4 b3 hg5
  have hv5:=hv3.up k5
  have n5:=k5.n
  refine ag rfl ((rH hE T.abj T.clone hv5 (by have:=hsz.1;omega) (by have:=hsz.2;omega) (by have:=hsz.2;omega)).mono fun w g6 ⟨q6,e6,k6,v6,l6⟩=> ?_)
  subst e6
  have n6:=k6.n
  have K36:=(k3.and k5).and k6
  have b6:=b5.up k6
  have oe6:=oe.up K36
  have oln:=oe.lt
  obtain ⟨cells,o1,o2,o3⟩:=oe6.next v6 (fun k q=>⟨by have:=l6 k q;omega,fun q2=>by have:=l6 k q;have:=oln k q2;omega⟩) (by omega)
  obtain ⟨ya,yb,yc⟩:=q6
  have hlen:done.length<=1000000:=by have:=congrArg List.length hdn;rw [List.length_append] at this;omega
  repeat first|refine ZA ?_|refine BW (ji rfl v6.key.one.2 v6.val.one.2) ?_|refine BP ?_|refine BQ ?_
  refine aA rfl rfl o1 (by decide) o2 (by omega) (by omega) fun ov' g7 a1 a2 a3=> ?_
  obtain ⟨p1,p2⟩:=o3 ov' g7 a1 a2 a3
  have n7:=p2.n
  have K7:Keep NoB h g7:=(K.and K36).own p2 (fun k q=>by have:=oe.lo k q;omega)
  have olo:∀k,blk ov k->g.n<=k:=oe.lo
  have S7:=(S.up K36).keep p2 (fun s hs q=>by have:=olo s q;have:=(JR s hs).2;omega) (fun k q1 q2=>by have:=olo k q2;omega)
  have oh7:=(oh.up K36).keep p2 (fun k q1 q2=>by have:=olo k q2;have:=hvl k q1;omega)
  have op7:=(op.up K36).keep p2 (fun k q1 q2=>by have:=olo k q2;have:=pvl k q1;omega)
  have hv7:=(hv5.up k6).keep p2 (fun k q1 q2=>by have:=olo k q2;have:=hqF k q1;omega)
  have b7:=b6.keep p2 (fun q=>by have:=oln _ q;omega)
  have hk7:=hv7.key
  simp only at hk7
  have hs2:=S.len
  have szp:∀j,∀r∈(rs2.take j).map (jm x.key)++rs2.drop j,∀e∈r,szE e:=fun j r hr e he=>by
   rcases List.mem_append.1 hr with hr|hr
   ·obtain ⟨r',h1,rfl⟩:=List.mem_map.1 hr
    exact hz2 r' (List.mem_of_mem_take h1) e (TF he)
   ·exact hz2 r (List.mem_of_mem_drop hr) e he
  repeat first|refine ZA ?_|refine BV (op7.ah (by rfl)) ?_|refine BP ?_|refine BQ ?_
  refine aQ (fun m t g8=>∃(j:Nat) (s9 s18:AV),j<=ss.length/\m=ss.length - j/\Keep (fun k=>k∈ss) g7 g8/\qG g8 ss ((rs2.take j).map (jm x.key)++rs2.drop j) (fun k=>k < h.n)/\
   t=[rv, .ae,hv,pv,s4,s5,ov', .ptr g3.n 0, .bool true,s9,rv, .int .i64 rs.length, .int .i64 rs.length, .bool false, .bool false,pv, .int .i64 ss.length, .int .i64 j,s18]) ?_ ss.length _ _ ⟨0,_,_,by omega,by omega,Keep.refl _ _,by simpa using S7,rfl⟩
  rintro m t g8 ⟨j,s9,s18,hj,hm,k8,S8,rfl⟩
  have op8:=op7.keep k8 (fun k q1 q2=>(pvb k q1).2 q2)
  have bx8:=b7.keep k8 (fun q=>by have:=(JR _ q).2;omega)
  have hk8:=hk7.keep k8 (fun k q1 q2=>by have:=hqF k (.inl q1);have:=(JR k q2).1;omega)
  by_cases hlt:j < ss.length
  ·obtain ⟨r,hrj⟩:∃r,rs2[j]?=some r:=⟨_,List.getElem?_eq_getElem (by omega)⟩
   obtain ⟨s,v,hs,bs,es⟩:=S8.get (TE hrj)
   obtain ⟨ga,oa,pa,la⟩:=op8.at2 hlt
   have la:∀{e:En} {t:List AV} {x:Od},x.ev e t= .ptr ga oa->(Mv.ld1 x).ev e t g8=some (Ik s):=fun {_ _ _} hx=>by rw [la (Keep.refl NoB _) (fun _ _ q=>q) hx,List.getElem?_map,hs];rfl
   have hsm:=List.mem_of_getElem? hs
   repeat first|refine ZA ?_|refine BV (pa rfl rfl) ?_|refine BV (la rfl) ?_|refine BV (au bx8 rfl rfl) ?_|refine BP ?_|refine BQ ?_
   refine yH rfl rfl ((Xj hE T bs es (by have:=(JR s hsm).1;omega) hk8).mono fun w g9 ⟨k9,v',b9,e9⟩=> ?_)
   repeat first|refine ZA ?_|refine BP ?_|refine BQ ?_
   rw [show ((j:Int)+1)=((j+1:Nat):Int) by omega]
   refine aj (m - 1) (by omega) ⟨j+1,_,_,by omega,by omega,k8.trans k9 (fun k _ q=>by have q:k=s:=q;subst q;exact hsm), ?_,rfl⟩
   rw [<-Il hrj]
   exact S8.step hs k9 b9 e9 (by have:=(JR s hsm).1;omega)
  ·have e:j=ss.length:=by omega
   subst e
   have eT:rs2.take ss.length=rs2:=List.take_of_length_le (by omega)
   have eD:rs2.drop ss.length=[]:=List.drop_eq_nil_of_le (by omega)
   rw [eT,eD,List.append_nil] at S8
   have szq:=szp ss.length
   rw [eT,eD,List.append_nil] at szq
   have n8:=k8.n
   repeat first|refine ZA ?_|refine BP ?_|refine BQ ?_
   refine aj (joinL (rs2.map (jm x.key))).length (by rw [hn,hjs];simp) ⟨rs2.map (jm x.key),done++[x.own],ov',_,_,_,_,_,_,_,_,K7.own k8 (fun k q=>(JR k q).1),by omega,S8,oh7.keep k8 (fun k q1 q2=>(hvb k q1).2.1 q2),op8, ?_,szq, ?_,rfl,p1.SK k8 (fun k q=>(JR k q).2) (fun k q=>q),rfl⟩
   ·intro r hr
    obtain ⟨r',h1,rfl⟩:=List.mem_map.1 hr
    exact C9 (hr2 r' h1)
   ·rw [List.append_assoc,List.singleton_append,<-hjs]
    exact hdn
 ·rw [hx] at e3
  obtain ⟨q,e3,al⟩:∃q:T3,w= .tup [.agg (f3 q), .bool false]/\allOne (f3 q)=true:=e3
  subst e3
  have hjn:=join_none hx
  rw [hjn,List.append_nil] at hdn
  rw [<-hdn]
  obtain ⟨qa,qb,qc⟩:=q
  have b3:Bx (g3.push (.rw [.ae, .ae, .bool false])) g3.n _:=aH
  have k4:Keep NoB g3 (g3.push (.rw [.ae, .ae, .bool false])):=Keep.push _ _ _
  have kq:Keep (az g3.n) (g3.push (.rw [.ae, .ae, .bool false])) ((g3.push (.rw [.ae, .ae, .bool false])).put g3.n (.rw [qa,qb, .bool qc])):=Keep.put _ _ _ rfl
  have k5:Keep NoB g3 ((g3.push (.rw [.ae, .ae, .bool false])).put g3.n (.rw [qa,qb, .bool qc])):=k4.own kq (fun k q=>by have q:k=g3.n:=q;omega)
  repeat first|refine ZA ?_|refine BV (di rfl) ?_|refine BW (aV b3 rfl rfl al rfl (Nat.le_refl _)) ?_|refine BP ?_|refine BQ ?_
  have oe5:=(oe.up k3).up k5
  refine ⟨(K.and k3).and k5, ?_⟩
  obtain ⟨tri,h1,h2,h3,h4,h5⟩:=oe5.out
  exact ⟨tri,h1,h2,h3,fun k q=>by have:=h4 k q;omega,fun q hq k hk=>⟨by have:=(h5 q hq k hk).1;omega,(h5 q hq k hk).2⟩⟩
set_option maxHeartbeats 4000000 in
theorem MN (hE:∀f e,E f=some e->e.plain) (T:KgT E) {h:Hp MD} {v:AV} {l:List EM} {F:Nat->Prop} (en:aN h v l F) (hl:l.length<=1000000) (hz:∀e∈l,szE e):
  WF (lim E) 87 [v] h fun w h'=>Keep NoB h h'/\OE h' w ((aY l).map EM.own) h.n (fun k=>h.n<=k):=by
 obtain ⟨tri,hr,htl,hq,_⟩:=en.out
 refine aC hE T.live rfl ?_
 simp only [kL,mvE,mvS,clE,efE,ceS,ceE,csE,faE,nlE,ldE,lnE,exE,eV,sL,kI,List.map,getS]
 have hmx:(maxLen:Nat)=9223372036854775807:=rfl
 repeat first|refine ZA ?_|refine BV (hr.ah (by rfl)) ?_|refine BP ?_|refine BQ ?_
 refine aQ (fun n t g=>∃(i:Nat) (ov s3 s7 s8:AV),i<=l.length/\n=l.length - i/\Keep NoB h g/\OE g ov ((aY (l.take i)).map EM.own) h.n (fun k=>h.n<=k)/\t=[v, .ae,ov,s3,v, .int .i64 l.length, .int .i64 i,s7,s8]) ?_ l.length _ _ ⟨0, .ae,_,_,_,by omega,by omega,Keep.refl _ _,by simp [aY];exact OE.nil,rfl⟩
 rintro n t g ⟨i,ov,s3,s7,s8,hi,hn,K,oe,rfl⟩
 have nK:=K.n
 by_cases hlt:i < l.length
 ·obtain ⟨x,hx⟩:∃x,l[i]?=some x:=⟨_,List.getElem?_eq_getElem hlt⟩
  obtain ⟨q,hqi⟩:∃q,tri[i]?=some q:=⟨_,List.getElem?_eq_getElem (by omega)⟩
  have hv:=(hq _ q x hqi hx).up K
  obtain ⟨ga,oa,pa,_,na⟩:=hr.at3 hqi
  have na:∀{e:En} {t:List AV} {x:Od},x.ev e t= .ptr ga oa->(Mv.ldn 3 x).ev e t g=some (.agg (f3 q)):=fun {_ _ _} hx=>na K (fun _ _ q=>q) hx
  have hsz:=hz x (List.mem_of_getElem? hx)
  obtain ⟨qa,qb,qc⟩:=q
  have hgb:=hv.gone
  simp only at hgb
  subst hgb
  have hall:allOne (f3 (qa,qb,x.gone))=true:=aX hv.key.one.2 hv.val.one.2 rfl
  have b3:Bx (g.push (.rw [.ae, .ae, .bool false])) g.n _:=aH
  have k4:Keep NoB g (g.push (.rw [.ae, .ae, .bool false])):=Keep.push _ _ _
  have kq:Keep (az g.n) (g.push (.rw [.ae, .ae, .bool false])) ((g.push (.rw [.ae, .ae, .bool false])).put g.n (.rw [qa,qb, .bool x.gone])):=Keep.put _ _ _ rfl
  have k5:Keep NoB g ((g.push (.rw [.ae, .ae, .bool false])).put g.n (.rw [qa,qb, .bool x.gone])):=k4.own kq (fun k q=>by have q:k=g.n:=q;omega)
  have b5:Bx ((g.push (.rw [.ae, .ae, .bool false])).put g.n (.rw [qa,qb, .bool x.gone])) g.n [qa,qb, .bool x.gone]:=b3.put
  have et:aY (l.take (i+1))=if x.gone then aY (l.take i) else aY (l.take i)++[x]:=by
   unfold aY
   rw [take_snoc hx,List.filter_append]
   cases hg:x.gone<;>simp [hg]
  cases hg:x.gone with
  |true=>
   rw [hg] at k5 b5 hall na et
   repeat first|refine ZA ?_|refine BV (pa rfl rfl) ?_|refine BV (na rfl) ?_|refine BV (au b5 rfl rfl) ?_|refine BW (aV b3 rfl rfl hall rfl (Nat.le_refl _)) ?_|refine BP ?_|refine BQ ?_
   rw [show ((i:Int)+1)=((i+1:Nat):Int) by omega]
   exact aj (n - 1) (by omega) ⟨i+1,ov,_,_,_,by omega,by omega,K.and k5,by rw [et,if_pos rfl];exact oe.up k5,rfl⟩
  |false=>
   rw [hg] at k5 b5 hall na et hv
   repeat first|refine ZA ?_|refine BV (pa rfl rfl) ?_|refine BV (na rfl) ?_|refine BV (au b5 rfl rfl) ?_|refine BV (dh b5 rfl (Nat.le_refl _)) ?_|refine BW (aV b3 rfl rfl hall rfl (Nat.le_refl _)) ?_|refine BP ?_|refine BQ ?_
   obtain ⟨g5,hg5⟩:∃g5:Hp MD,g5=(g.push (.rw [.ae, .ae, .bool false])).put g.n (.rw [qa,qb, .bool false]):=⟨_,rfl⟩
   refine aJ (h':=g5) (by rw [hg5];first|done|rfl) ?_
   rw [<-hg5] at k5 b5
   have hv5:=hv.up k5
   have n5:=k5.n
   refine ag rfl ((rH hE T.abj T.clone hv5 (by have:=hsz.1;omega) (by have:=hsz.2;omega) (by have:=hsz.2;omega)).mono fun w g6 ⟨q6,e6,k6,v6,l6⟩=> ?_)
   subst e6
   have oe6:=(oe.up k5).up k6
   have oln:=oe.lt
   obtain ⟨cells,o1,o2,o3⟩:=oe6.next v6 (fun k q=>⟨by have:=l6 k q;omega,fun q2=>by have:=l6 k q;have:=oln k q2;omega⟩) (by have:=k6.n;omega)
   obtain ⟨ya,yb,yc⟩:=q6
   have hlm:((aY (l.take i)).map EM.own).length<=i:=by
    rw [List.length_map]
    have:=List.length_filter_le (fun e:EM=> !e.gone) (l.take i)
    rw [List.length_take] at this
    unfold aY
    omega
   repeat first|refine ZA ?_|refine BW (ji rfl v6.key.one.2 v6.val.one.2) ?_|refine BP ?_|refine BQ ?_
   refine aA rfl rfl o1 (by decide) o2 (by omega) (by omega) fun ov' g7 a1 a2 a3=> ?_
   obtain ⟨p1,p2⟩:=o3 ov' g7 a1 a2 a3
   repeat first|refine ZA ?_|refine BP ?_|refine BQ ?_
   rw [show ((i:Int)+1)=((i+1:Nat):Int) by omega]
   exact aj (n - 1) (by omega) ⟨i+1,ov',_,_,_,by omega,by omega,((K.and k5).and k6).own p2 oe.lo,by rw [et,if_neg (by simp),List.map_append];exact p1,rfl⟩
 ·repeat first|refine ZA ?_|refine BP ?_|refine BQ ?_
  rw [List.take_of_length_le (show l.length<=i by omega)] at oe
  exact ⟨K,oe⟩
end
def rP:BF:=⟨43,[0,1,5,6,7,8,9,10,11,21],(.seq (.reg [mvS 5 (.mv (sL 1)),mvS 6 (.ah (sL 5)),mvS 7 (.mv (.const (.int .i64 0)))]) (.block 0 (.loop (.seq (.reg [mvS 8 (.bin .lss .no (sL 7) (sL 6))]) (.seq (.cond (sL 8) .skip (.exit 0)) (.seq (.block 1 (.seq (.reg [mvE 12 (.aP 3 (sL 5) (sL 7)),mvE 13 (.ldn 3 (eV 12)), .mk none (.slot 2) (.eff (.alloc [.ae, .ae,(.bool false)])), .mk none .none (.eff (.store 3 (sL 2) (eV 13)))]) (.seq (.reg [ceS 15 0,mvE 16 (.aG 0 (sL 2)),ldE 17 16,clE 18 109 [eV 15,eV 17],ceE 14 18,exE 19 0 14,exE 20 1 14,csE 3 19,csE 4 20]) (.seq (.reg [mvS 9 (.mv (sL 4))]) (.cond (sL 9) (.iC [(ceS 22 0,[]),(nlE 23 22,[]),(faE 24 0 23,[]),(ldE 25 24,[]),(ceS 26 3,[]),(mvE 27 (.ldn 3 (sL 2)),[]),(clE 28 110 [eV 27],[0,1,2,3,4]),(mvE 29 (.aP 3 (eV 25) (eV 26)),[]),(.mk none .none (.eff (.store 3 (eV 29) (eV 28))),[])]) (.iC [(ceS 30 0,[]),(ceS 31 0,[]),(nlE 32 31,[]),(faE 33 0 32,[]),(ldE 34 33,[]),(ceS 35 3,[]),(mvE 36 (.ldn 3 (sL 2)),[]),(clE 37 110 [eV 36],[0,1,2,3,4,5]),(efE 38 (.aF 3 1 [.ae, .ae,(.bool false)] [(0,3,(eV 37))]),[0,1,2,3,4,5]),(clE 39 111 [eV 34,eV 35,eV 38],[0]),(nlE 40 30,[]),(faE 41 0 40,[]),(.mk none .none (.eff (.store 1 (eV 41) (eV 39))),[])])))))) (.reg [mvE 42 (.bin .add .no (sL 7) (.const (.int .i64 1))),csE 7 42]))))))),[]⟩
theorem Xk {l:List EM} (hl:dI l) {f:EM} {i:Nat} (p:PlP l f.key i) (hn:qF l f.key i=false):dC EM.key l f=l.take i++f::l.drop i:=by
 obtain ⟨h1,h2⟩:=p.take hl
 have hg:=zS hl p
 rw [hn] at hg
 simp only [Bool.false_eq_true,if_false] at hg
 unfold dC
 rw [h1,h2,ui (fun x hx=>get_none.1 hg x hx)]
theorem Xl {l:List EM} (hl:dI l) {f:EM} {i:Nat} (p:PlP l f.key i) (hn:qF l f.key i=true):i < l.length/\dC EM.key l f=l.take i++f::l.drop (i+1):=by
 obtain ⟨h1,h2⟩:=p.take hl
 unfold qF at hn
 cases hx:l[i]? with
 |none=>rw [hx] at hn;cases hn
 |some x=>
  rw [hx] at hn
  have hk:x.key=f.key:=by simpa using hn
  obtain ⟨hi,rfl⟩:=List.getElem?_eq_some_iff.1 hx
  refine ⟨hi, ?_⟩
  unfold dC
  rw [h1,ay.xE hl hi hk (fun k hk hki=>p.lo k _ (List.getElem?_eq_getElem hk) hki)]
structure pq (h:Hp MD) (g:Nat) (v:AV) (l:List EM) (F:Nat->Prop):Prop where
 bx:Bx h g [v]
 out:∃tri:List T3,tri.length=l.length/\(∀(i:Nat) q e,tri[i]?=some q->l[i]?=some e->eH h q e)/\(∀q∈tri,∀k,blk q.1 k\/blk q.2.1 k->F k/\k≠g/\¬blk v k)/\
  ((v= .ae/\l=[])\/∃gb,v= .slice 3 gb 0 l.length none/\Bx h gb (tri.flatMap f3)/\gb≠g/\0 < l.length)
theorem pq.lt {h:Hp MD} {g:Nat} {v:AV} {l:List EM} {F:Nat->Prop} (a:pq h g v l F):g < h.n/\∀k,blk v k->k < h.n/\k≠g:=by
 refine ⟨a.bx.lt,fun k hk=> ?_⟩
 obtain ⟨tri,_,_,_,q⟩:=a.out
 rcases q with ⟨rfl,_⟩|⟨gb,rfl,b,hne,_⟩
 ·exact hk.elim
 ·have hk:k=gb:=hk
  subst hk
  exact ⟨b.lt,hne⟩
theorem pq.keep {S F:Nat->Prop} {h h':Hp MD} {g:Nat} {v:AV} {l:List EM} (a:pq h g v l F) (k:Keep S h h') (hg:¬S g) (hv:∀k,blk v k->¬S k) (hF:∀k,F k->k < h.n->¬S k):pq h' g v l F:=by
 refine ⟨a.bx.keep k hg, ?_⟩
 obtain ⟨tri,h1,h2,h3,q⟩:=a.out
 refine ⟨tri,h1,fun i q e q1 q2=>(h2 i q e q1 q2).keep k (fun j hj=>hF j (h3 q (List.mem_of_getElem? q1) j hj).1 ((h2 i q e q1 q2).lt j hj)),h3, ?_⟩
 rcases q with q|⟨gb,rfl,b,hne,hp⟩
 ·exact .inl q
 ·exact .inr ⟨gb,rfl,b.keep k (hv gb rfl),hne,hp⟩
theorem pq.up {F:Nat->Prop} {h h':Hp MD} {g:Nat} {v:AV} {l:List EM} (a:pq h g v l F) (k:Keep NoB h h'):pq h' g v l F:=a.keep k (fun q=>q) (fun _ _ q=>q) (fun _ _ _ q=>q)
theorem pq.OH {F:Nat->Prop} {h:Hp MD} {g:Nat} {v:AV} {l:List EM} (a:pq h g v l F):iG h g l (fun k=>F k\/blk v k):=by
 obtain ⟨tri,h1,h2,h3,q⟩:=a.out
 refine ⟨v,a.bx,tri, ?_,h1,h2,fun k q=> .inr q,fun q hq k hk=> .inl (h3 q hq k hk).1⟩
 rcases q with ⟨rfl,rfl⟩|⟨gb,rfl,b,hne,hp⟩
 ·have:tri=[]:=List.eq_nil_of_length_eq_zero (by simpa using h1)
  subst this
  exact ⟨rfl,rfl⟩
 ·refine ⟨rfl,rfl,b.lt,_,eF b.get, ?_, ?_⟩
  ·rw [xn,h1];omega
  ·rw [List.drop_zero,List.take_of_length_le]
   rw [xn,h1];exact Nat.le_refl _
structure KpT (E:Nat->Option (Ent MD)):Prop extends KgT E where
 ins:E 111=some (.nat (qC Sv))
 acv:E 64=some (.bc rP)
theorem EZ:∀(tri:List T3) (i:Nat),(tri.flatMap f3).take (i*3)=(tri.take i).flatMap f3
 |[],i=>by simp
 |q::t,0=>by simp
 |q::t,i+1=>by
  rw [List.flatMap_cons,List.take_succ_cons,List.flatMap_cons,show (i+1)*3=(f3 q).length+i*3 by simp [f3];omega,List.take_length_add_append,EZ t i]
theorem E8:∀(tri:List T3) (i:Nat),(tri.flatMap f3).drop (i*3)=(tri.drop i).flatMap f3
 |[],i=>by simp
 |q::t,0=>by simp
 |q::t,i+1=>by
  rw [List.flatMap_cons,List.drop_succ_cons,show (i+1)*3=(f3 q).length+i*3 by simp [f3];omega,List.drop_length_add_append,E8 t i]
theorem TI {α β:Type} {R:α->β->Prop} {A:List α} {B:List β} {a:α} {b:β} (hl:A.length=B.length) (h:∀(i:Nat) x y,A[i]?=some x->B[i]?=some y->R x y) (hab:R a b) (n m:Nat):∀(i:Nat) x y,(A.take n++a::A.drop m)[i]?=some x->(B.take n++b::B.drop m)[i]?=some y->R x y:=by
 intro i x y h1 h2
 have e:(A.take n).length=(B.take n).length:=by rw [List.length_take,List.length_take,hl]
 by_cases hi:i < (A.take n).length
 ·rw [List.getElem?_append_left hi] at h1
  rw [List.getElem?_append_left (by omega)] at h2
  rw [List.length_take] at hi
  rw [List.getElem?_take_of_lt (by omega)] at h1 h2
  exact h i x y h1 h2
 ·rw [List.getElem?_append_right (by omega)] at h1
  rw [List.getElem?_append_right (by omega),<-e] at h2
  cases hj:i - (A.take n).length with
  |zero=>
   rw [hj] at h1 h2
   simp at h1 h2
   subst h1 h2
   exact hab
  |succ j=>
   rw [hj] at h1 h2
   simp only [List.getElem?_cons_succ,List.getElem?_drop] at h1 h2
   exact h _ x y h1 h2
theorem OI {l:List EM} (hl:kU l) {x:EM} (hx:szE x) (hn:l.length+1<=1000000):kU (dC EM.key l x.own):=by
 refine ⟨hl.ris.put _,by have:=zG l x.own;omega,fun e he=> ?_⟩
 rcases iM.1 he with rfl|⟨he,_⟩
 ·refine ⟨hx.1,hx.2.1, ?_⟩
  have:x.own.val=if x.gone then [] else x.val:=rfl
  rw [this]
  split
  ·simp
  ·exact hx.2.2
 ·exact hl.sz e he
section
variable {E:Nat->Option (Ent MD)}
set_option maxHeartbeats 16000000 in
theorem MO (hE:∀f e,E f=some e->e.plain) (T:KpT E) {h:Hp MD} {g:Nat} {v bv:AV} {l xs:List EM} {F G:Nat->Prop} (m:pq h g v l F) (hl:kU l) (en:aN h bv xs G) (hG:∀k,G k->k≠g/\¬blk v k) (hz:∀e∈xs,szE e) (hn:l.length+xs.length<=1000000):
  WF (lim E) 64 [.ptr g 0,bv] h fun _ h'=>∃v',pq h' g v' (dB l xs) (fun k=>F k\/h.n<=k)/\Keep (fun k=>k=g\/blk v k) h h'/\∀k,blk v' k->blk v k\/h.n<=k:=by
 have en:=en.lt
 obtain ⟨trx,hrx,htx,hqx,hbx,hFx⟩:=en.out
 refine aC hE T.acv rfl ?_
 simp only [rP,mvE,mvS,clE,efE,ceS,ceE,csE,faE,nlE,ldE,lnE,exE,eV,sL,kI,List.map,getS]
 have hmx:(maxLen:Nat)=9223372036854775807:=rfl
 repeat first|refine ZA ?_|refine BV (hrx.ah (by rfl)) ?_|refine BP ?_|refine BQ ?_
 refine aQ (fun n t hh=>∃(i:Nat) (w s2 s3 s4 s8 s9:AV),i<=xs.length/\n=xs.length - i/\h.n<=hh.n/\pq hh g w (dB l (xs.take i)) (fun k=>F k\/h.n<=k)/\Keep (fun k=>k=g\/blk v k) h hh/\(∀k,blk w k->blk v k\/h.n<=k)/\kU (dB l (xs.take i))/\(dB l (xs.take i)).length<=l.length+i/\
  t=[.ptr g 0,bv,s2,s3,s4,bv, .int .i64 xs.length, .int .i64 i,s8,s9]) ?_ xs.length _ _ ⟨0,v,_,_,_,_,_,by omega,by omega,Nat.le_refl _, ?_,Keep.refl _ _,fun k q=> .inl q,hl,Nat.le_refl _,rfl⟩
 rotate_left
 ·obtain ⟨tri,h1,h2,h3,q⟩:=m.out
  exact ⟨m.bx,tri,h1,h2,fun q hq k hk=>⟨.inl (h3 q hq k hk).1,(h3 q hq k hk).2⟩,q⟩
 rintro n t hh ⟨i,w,s2,s3,s4,s8,s9,hi,hnn,hhn,M,K,wb,hr1,hlen,rfl⟩
 have enh:aN hh bv xs (fun k=>G k/\k < h.n):=en.keep K (fun k q1 q2=>by rcases q2 with q2|q2;exact (hG k q1.1).1 q2;exact (hG k q1.1).2 q2)
 have hmg:=m.lt.1
 by_cases hlt:i < xs.length
 ·obtain ⟨x,hx⟩:∃x,xs[i]?=some x:=⟨_,List.getElem?_eq_getElem hlt⟩
  obtain ⟨trh,hrh,hth,hqh,hbh,hFh⟩:=enh.out
  obtain ⟨q,hqi⟩:∃q,trh[i]?=some q:=⟨_,List.getElem?_eq_getElem (by omega)⟩
  have hv:=hqh i q x hqi hx
  have hvF:=hFh q (List.mem_of_getElem? hqi)
  obtain ⟨ga,oa,pa,_,na⟩:=hrh.at3 hqi
  have na:∀{e:En} {t:List AV} {x:Od},x.ev e t= .ptr ga oa->(Mv.ldn 3 x).ev e t hh=some (.agg (f3 q)):=fun {_ _ _} hx=>na (Keep.refl NoB _) (fun _ _ q=>q) hx
  have hsz:=hz x (List.mem_of_getElem? hx)
  have hsz3:=hsz.2.2
  have hsz2:=hsz.2.1
  have hsz1:=hsz.1
  have epa:dB l (xs.take (i+1))=dC EM.key (dB l (xs.take i)) x.own:=by rw [take_snoc hx,RZ];rfl
  have hr2:=OI hr1 hsz (by omega)
  have hlen2:(dC EM.key (dB l (xs.take i)) x.own).length<=l.length+(i+1):=by have:=zG (dB l (xs.take i)) x.own;omega
  obtain ⟨qa,qb,qc⟩:=q
  have hall:allOne (f3 (qa,qb,qc))=true:=aX hv.key.one.2 hv.val.one.2 rfl
  have b3:Bx (hh.push (.rw [.ae, .ae, .bool false])) hh.n _:=aH
  have k4:Keep NoB hh (hh.push (.rw [.ae, .ae, .bool false])):=Keep.push _ _ _
  have kq:Keep (az hh.n) (hh.push (.rw [.ae, .ae, .bool false])) ((hh.push (.rw [.ae, .ae, .bool false])).put hh.n (.rw [qa,qb, .bool qc])):=Keep.put _ _ _ rfl
  have k5:Keep NoB hh ((hh.push (.rw [.ae, .ae, .bool false])).put hh.n (.rw [qa,qb, .bool qc])):=k4.own kq (fun k q=>by have q:k=hh.n:=q;omega)
  have b5:Bx ((hh.push (.rw [.ae, .ae, .bool false])).put hh.n (.rw [qa,qb, .bool qc])) hh.n [qa,qb, .bool qc]:=b3.put
  repeat first|refine ZA ?_|refine BV (pa rfl rfl) ?_|refine BV (na rfl) ?_|refine BV (au b5 rfl rfl) ?_|refine BW (aV b3 rfl rfl hall rfl (Nat.le_refl _)) ?_|refine BP ?_|refine BQ ?_
  obtain ⟨h5,hh5⟩:∃h5:Hp MD,h5=(hh.push (.rw [.ae, .ae, .bool false])).put hh.n (.rw [qa,qb, .bool qc]):=⟨_,rfl⟩
  refine aJ (h':=h5) (by rw [hh5];first|done|rfl) ?_
  rw [<-hh5] at k5 b5
  have n5:h5.n=hh.n+1:=by rw [hh5];rfl
  clear kq k4 b3 hh5
  have hv5:=hv.up k5
  have M5:=M.up k5
  refine ag rfl ((tK hE T.toKmT M5.OH hr1 hv5.key).mono fun r h6 ⟨e6,j,P,er⟩=> ?_)
  subst e6 er
  have acw:=M5.lt
  have K5:Keep (fun k=>k=g\/blk v k) h h6:=K.and k5
  have fin:∀{h9:Hp MD} {w' a b c d e:AV},h.n<=h9.n->pq h9 g w' (dC EM.key (dB l (xs.take i)) x.own) (fun k=>F k\/h.n<=k)->Keep (fun k=>k=g\/blk v k) h h9->(∀k,blk w' k->blk v k\/h.n<=k)->
    ∃(j:Nat) (w s2 s3 s4 s8 s9:AV),j<=xs.length/\n - 1=xs.length - j/\h.n<=h9.n/\pq h9 g w (dB l (xs.take j)) (fun k=>F k\/h.n<=k)/\Keep (fun k=>k=g\/blk v k) h h9/\(∀k,blk w k->blk v k\/h.n<=k)/\kU (dB l (xs.take j))/\(dB l (xs.take j)).length<=l.length+j/\
     [.ptr g 0,bv,a,b,c,bv, .int .i64 xs.length, .int .i64 ((i:Int)+1),d,e]=[.ptr g 0,bv,s2,s3,s4,bv, .int .i64 xs.length, .int .i64 j,s8,s9]:=fun {h9 w' a b c d e} z0 z1 z2 z3=>by
   rw [show ((i:Int)+1)=((i+1:Nat):Int) by omega]
   exact ⟨i+1,w',_,_,_,_,_,by omega,by omega,z0,by rw [epa];exact z1,z2,z3,by rw [epa];exact hr2,by rw [epa];exact hlen2,rfl⟩
  generalize hL:dB l (xs.take i)=L at*
  have abk:PlP L x.own.key j:=P
  cases hat:qF L x.key j with
  |true=>
   obtain ⟨hjl,hput⟩:=Xl hr1.ris abk hat
   obtain ⟨tri,t1,t2,t3,t4⟩:=M5.out
   rcases t4 with ⟨_,rfl⟩|⟨gb,rfl,bb,hgb,_⟩
   ·simp at hjl
   have hbbl:=bb.lt
   have vn:∀{e:En} {t:List AV} {x y:Od} {hh:Hp MD},x.ev e t= .slice 3 gb 0 L.length none->y.ev e t= .int .i64 (j:Int)->(Mv.aP 3 x y).ev e t hh=some (.ptr gb (0+j*3)):=fun {e t x y hh} h1 h2=>by
    simp only [Mv.ev,h1,h2,jQ,show Nat.blt j L.length=true by rw [Nat.blt_eq];exact hjl,cond_true]
   repeat first|refine ZA ?_|refine BP ?_|refine BQ ?_
   repeat first|refine ZI ?_|refine CB (ak rfl) ?_|refine CB (au M5.bx rfl rfl) ?_|refine CB (dh b5 rfl (Nat.le_refl _)) ?_|refine BV (ak rfl) ?_|refine BV (au M5.bx rfl rfl) ?_|refine BV (dh b5 rfl (Nat.le_refl _)) ?_|refine BP ?_|refine BQ ?_|refine CC ?_
   refine bF rfl ((rH hE T.own T.clone hv5 (by omega) (by omega) (by omega)).mono fun r h7 ⟨q7,e7,k7,v7,l7⟩=> ?_)
   subst e7
   have M7:=M5.up k7
   have bb7:=bb.up k7
   have n7:=k7.n
   refine ⟨(by (try simp only [List.nil_append,List.cons_append]);repeat first|exact aW|(apply iR;(focus exact rfl);first|exact jq|(refine iT ?_;first|exact (ak rfl)|exact (au M7.bx rfl rfl)|exact rfl))), ?_⟩
   repeat first|refine ZI ?_|refine CB (vn rfl rfl) ?_|refine BV (vn rfl rfl) ?_|refine BP ?_|refine BQ ?_|refine CC ?_
   obtain ⟨ya,yb,yc⟩:=q7
   have hall7:allOne [ya,yb, .bool yc]=true:=aX v7.key.one.2 v7.val.one.2 rfl
   have hfl:(tri.flatMap f3).length=L.length*3:=by rw [xn,t1]
   refine rD (aV bb7 rfl rfl hall7 rfl (by rw [hfl];omega)) aW ?_
   repeat first|refine ZI ?_|refine BP ?_|refine BQ ?_|refine CC ?_
   have acx:spl (0+j*3) (f3 (ya,yb,yc)) (tri.flatMap f3)=(tri.take j++(ya,yb,yc)::tri.drop (j+1)).flatMap f3:=by
    unfold spl
    rw [Nat.zero_add,EZ,show j*3+(f3 (ya,yb,yc)).length=(j+1)*3 by simp [f3];omega,E8,List.flatMap_append,List.flatMap_cons]
   rw [acx]
   have kw:Keep (az gb) h7 (h7.put gb (.rw ((tri.take j++(ya,yb,yc)::tri.drop (j+1)).flatMap f3))):=Keep.put _ _ _ rfl
   have hgv:blk v gb\/h.n<=gb:=wb gb rfl
   refine aj (n - 1) (by omega) (fin (w':= .slice 3 gb 0 L.length none) (by simp only [qZ];omega) ⟨M7.bx.keep kw (fun q=>hgb (by have q:g=gb:=q;exact q.symm)),tri.take j++(ya,yb,yc)::tri.drop (j+1), ?_, ?_, ?_, .inr ⟨gb, ?_,bb7.put,hgb, ?_⟩⟩ ((K5.and k7).on kw (fun k q=>by
    have q:k=gb:=q
    subst q
    rcases hgv with z|z
    ·exact .inr (.inr z)
    ·exact .inl z)) wb)
   ·rw [hput]
    simp only [List.length_append,List.length_take,List.length_cons,List.length_drop,t1]
   ·rw [hput]
    refine TI t1 (fun i' q' e' z1 z2=> ?_) (v7.keep kw (fun k z1 z2=>by have:=l7 k z1;have z2:k=gb:=z2;omega)) j (j+1)
    exact ((t2 i' q' e' z1 z2).up k7).keep kw (fun k z3 z4=>(t3 q' (List.mem_of_getElem? z1) k z3).2.2 z4)
   ·intro q' hq' k hk
    have:q'∈tri\/q'=(ya,yb,yc):=by
     rcases List.mem_append.1 hq' with z|z
     ·exact .inl (List.mem_of_mem_take z)
     ·rcases List.mem_cons.1 z with z|z
      ·exact .inr z
      ·exact .inl (List.mem_of_mem_drop z)
    rcases this with z|rfl
    ·exact t3 q' z k hk
    ·have:=l7 k hk
     exact ⟨.inr (by omega),by omega,fun z=>by have z:k=gb:=z;omega⟩
   ·rw [hput]
    congr 1
    simp only [List.length_append,List.length_take,List.length_cons,List.length_drop]
    omega
   ·rw [hput];simp;omega
  |false=>
   have hput:=Xk hr1.ris abk hat
   have hjl:=P.le
   obtain ⟨tri,t1,t2,t3,t4⟩:=M5.out
   repeat first|refine ZA ?_|refine BP ?_|refine BQ ?_
   repeat first|refine ZI ?_|refine CB (ak rfl) ?_|refine CB (au M5.bx rfl rfl) ?_|refine CB (dh b5 rfl (Nat.le_refl _)) ?_|refine BV (ak rfl) ?_|refine BV (au M5.bx rfl rfl) ?_|refine BV (dh b5 rfl (Nat.le_refl _)) ?_|refine BP ?_|refine BQ ?_|refine CC ?_
   refine bF rfl ((rH hE T.own T.clone hv5 (by omega) (by omega) (by omega)).mono fun r h7 ⟨q7,e7,k7,v7,l7⟩=> ?_)
   subst e7
   have M7:=M5.up k7
   have n7:=k7.n
   refine ⟨(by (try simp only [List.nil_append,List.cons_append]);repeat first|exact aW|(apply iR;(focus exact rfl);first|exact jq|(refine iT ?_;first|exact (ak rfl)|exact (au M7.bx rfl rfl)|exact rfl))), ?_⟩
   obtain ⟨ya,yb,yc⟩:=q7
   have kp:Keep NoB h7 (h7.push (.rw [ya,yb, .bool yc])):=Keep.push _ _ _
   have M8:=M7.up kp
   have bx8:Bx (h7.push (.rw [ya,yb, .bool yc])) h7.n [ya,yb, .bool yc]:=aH
   refine EE (cs:=[ya,yb, .bool yc]) (ji rfl v7.key.one.2 v7.val.one.2) (by (try simp only [List.nil_append,List.cons_append]);repeat first|exact aW|(apply iR;(focus exact rfl);first|exact jq|(refine iT ?_;first|exact (ak rfl)|exact (au M8.bx rfl rfl)|exact rfl))) ?_
   have v8:=v7.up kp
   have l8:∀k,blk ya k\/blk yb k->h6.n<=k:=l7
   have after:∀(r:AV) (h9:Hp MD),Sv [w, .int .i64 (j:Int), .slice 3 h7.n 0 1 (some 1)] (h7.push (.rw [ya,yb, .bool yc])) r h9->∃w',r=w'/\Keep (blk w) (h7.push (.rw [ya,yb, .bool yc])) h9/\(∀k,blk w' k->h7.n+1<=k)/\cellsOf w'=some [w']/\w'.one=true/\
     ∃gb,w'= .slice 3 gb 0 (L.length+1) none/\Bx h9 gb ((tri.take j++(ya,yb,yc)::tri.drop j).flatMap f3):=by
    rintro r h9 ⟨gx,a,b,c,hx,hR⟩
    have gxe:∀{A B:AV},[w,A, .slice 3 h7.n 0 1 (some 1)]=[B,A, .slice 3 gx 0 1 (some 1)]->gx=h7.n:=fun q=>by cases q;rfl
    rcases hR with ⟨ha,rfl,rfl⟩|⟨g',n',i',l',ha,hg',hl',hgx,hin,hn',hn0,rfl,rfl⟩
    ·simp only [List.cons.injEq,AV.slice.injEq,AV.int.injEq,true_and,and_true] at ha
     obtain ⟨rfl,hj0,hgx⟩:=ha
     subst hgx
     rw [bx8.get] at hx
     cases hx
     have hL0:L=[]:=by
      rcases t4 with ⟨_,z⟩|⟨gb,z,_⟩
      ·exact z
      ·cases z
     subst hL0
     have ht0:tri=[]:=List.eq_nil_of_length_eq_zero (by simpa using t1)
     subst ht0
     refine ⟨_,rfl,Keep.push _ _ _,fun k q=>by have q:k=(h7.push (.rw [ya,yb, .bool yc])).n:=q;simp only [bJ] at q;omega,rfl,rfl,_,rfl, ?_⟩
     rw [show ((([]:List T3).take j++(ya,yb,yc)::([]:List T3).drop j).flatMap f3)=[ya,yb, .bool yc] by simp [f3]]
     exact aH
    ·simp only [List.cons.injEq,AV.slice.injEq,AV.int.injEq,true_and,and_true] at ha
     obtain ⟨rfl,hj0,hgx2⟩:=ha
     subst hgx2
     rw [bx8.get] at hx
     cases hx
     have hj0:i'=j:=by omega
     subst hj0
     obtain ⟨gb,z1,z2,z3,z4⟩:∃gb,AV.slice 3 g' 0 n' none= .slice 3 gb 0 L.length none/\Bx h6 gb (tri.flatMap f3)/\gb≠g/\0 < L.length:=by
      rcases t4 with ⟨z,_⟩|z
      ·cases z
      ·exact z
     cases z1
     have z5:=((z2.up k7).up kp).get
     rw [hg'] at z5
     cases z5
     have kd:Keep (blk (.slice 3 g' 0 L.length none)) (h7.push (.rw [ya,yb, .bool yc])) (((h7.push (.rw [ya,yb, .bool yc])).del g').push (.rw ((tri.flatMap f3).take (i'*3)++([ya,yb, .bool yc]++(tri.flatMap f3).drop (i'*3))))):=(Keep.del (S:=blk (.slice 3 g' 0 L.length none)) _ g' rfl).trans (T:=NoB) (Keep.push NoB _ _) (fun _ _ q=>q.elim)
     refine ⟨_,rfl,kd,fun k q=>by have q:k=(h7.push (.rw [ya,yb, .bool yc])).n:=q;simp only [bJ] at q;omega,rfl,rfl,_,rfl, ?_⟩
     have er:(tri.take i'++(ya,yb,yc)::tri.drop i').flatMap f3=(tri.flatMap f3).take (i'*3)++([ya,yb, .bool yc]++(tri.flatMap f3).drop (i'*3)):=by
      rw [List.flatMap_append,List.flatMap_cons,EZ,E8];rfl
     rw [er]
     exact aH
   have hins:∃r h9,Sv [w, .int .i64 (j:Int), .slice 3 h7.n 0 1 (some 1)] (h7.push (.rw [ya,yb, .bool yc])) r h9:=by
    rcases t4 with ⟨rfl,rfl⟩|⟨gb,rfl,bb,hgb,hp⟩
    ·have hj0:j=0:=by simpa using hjl
     subst hj0
     exact ⟨_,_,h7.n,ya,yb, .bool yc,bx8.get, .inl ⟨rfl,rfl,rfl⟩⟩
    ·have hbl:=bb.lt
     exact ⟨_,_,h7.n,ya,yb, .bool yc,bx8.get, .inr ⟨gb,L.length,j,_,rfl,((bb.up k7).up kp).get,by rw [xn,t1],by omega,hjl,by omega,hp,rfl,rfl⟩⟩
   obtain ⟨r0,h90,hR0⟩:=hins
   refine bF rfl ((X9 hE T.ins hR0 after).mono fun r h9 ⟨w',e9,k9,l9,o9,o9',gb,ew,bb9⟩=> ?_)
   subst e9
   have wlt:∀k,blk w k->k < h6.n/\k≠g:=acw.2
   have bx9:=M8.bx.keep k9 (fun q=>(wlt _ q).2 rfl)
   have n9:=k9.n
   simp only [bJ] at n9
   refine ⟨(by (try simp only [List.nil_append,List.cons_append]);repeat first|exact aW|(apply iR;(focus exact rfl);first|exact jq|(refine iT ?_;first|exact rfl))), ?_⟩
   repeat first|refine ZI ?_|refine CB (ak rfl) ?_|refine BV (ak rfl) ?_|refine BP ?_|refine BQ ?_|refine CC ?_
   refine rD (fQ bx9 rfl rfl ⟨o9,o9'⟩ (Nat.zero_lt_succ _)) aW ?_
   repeat first|refine ZI ?_|refine BP ?_|refine BQ ?_|refine CC ?_
   have kw:Keep (az g) h9 (h9.put g (.rw [r])):=Keep.put _ _ _ rfl
   have Kf:Keep (fun k=>k=g\/blk v k) h (h9.put g (.rw [r])):=((((K5.and k7).and kp).on k9 (fun k q=>by
    rcases wb k q with z|z
    ·exact .inr (.inr z)
    ·exact .inl z))).on kw (fun k q=> .inr (.inl q))
   have hgb:gb≠g:=by have:=l9 gb (by rw [ew];rfl);omega
   refine aj (n - 1) (by omega) (fin (w':=r) (by simp only [qZ];omega) ⟨bx9.put,tri.take j++(ya,yb,yc)::tri.drop j, ?_, ?_, ?_, .inr ⟨gb, ?_,bb9.keep kw (fun q=>hgb q),hgb, ?_⟩⟩ Kf (fun k q=> .inr (by have:=l9 k q;omega)))
   ·rw [hput]
    simp only [List.length_append,List.length_take,List.length_cons,List.length_drop,t1]
   ·rw [hput]
    refine TI t1 (fun i' q' e' z1 z2=> ?_) (((v8.keep k9 (fun k z1 z2=>by have:=l8 k z1;have:=(wlt k z2).1;omega))).keep kw (fun k z1 z2=>by have:=l8 k z1;have z2:k=g:=z2;omega)) j j
    exact ((((t2 i' q' e' z1 z2).up k7).up kp).keep k9 (fun k z3 z4=>(t3 q' (List.mem_of_getElem? z1) k z3).2.2 z4)).keep kw (fun k z3 z4=>(t3 q' (List.mem_of_getElem? z1) k z3).2.1 z4)
   ·intro q' hq' k hk
    have hm:q'∈tri\/q'=(ya,yb,yc):=by
     rcases List.mem_append.1 hq' with z|z
     ·exact .inl (List.mem_of_mem_take z)
     ·rcases List.mem_cons.1 z with z|z
      ·exact .inr z
      ·exact .inl (List.mem_of_mem_drop z)
    rcases hm with z|rfl
    ·refine ⟨(t3 q' z k hk).1,(t3 q' z k hk).2.1,fun z2=> ?_⟩
     have:=l9 k z2
     obtain ⟨i',hi'⟩:=List.mem_iff_getElem?.1 z
     have hil:=(List.getElem?_eq_some_iff.1 hi').1
     have:=(t2 i' q' _ hi' (List.getElem?_eq_getElem (by omega))).lt k hk
     omega
    ·have h1:=l8 k hk
     have h2:=v7.lt k hk
     exact ⟨.inr (by omega),by omega,fun z=>by have:=l9 k z;omega⟩
   ·rw [ew,hput]
    congr 1
    simp only [List.length_append,List.length_take,List.length_cons,List.length_drop]
    omega
   ·rw [hput];simp;omega
 ·have e:i=xs.length:=by omega
  subst e
  rw [List.take_length] at M
  repeat first|refine ZA ?_|refine BP ?_|refine BQ ?_
  exact ⟨w,M,K,wb⟩
end
end Am
end Go.Proofs.YtbnkdnlfdofepaaGreat
