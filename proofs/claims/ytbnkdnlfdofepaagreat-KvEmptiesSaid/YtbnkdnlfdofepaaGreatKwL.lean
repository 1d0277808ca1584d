/- KvEmpties: the law, walked. -/
import Derived.Test.YtbnkdnlfdofepaaGreatXH
set_option linter.unusedVariables false
set_option linter.unusedSimpArgs false
namespace Go.Proofs.YtbnkdnlfdofepaaGreat
namespace Am
open Go.RowKit
set_option maxRecDepth 100000
def kM:BF:=⟨101,[0,1,4,5,6,7,8,9,10,13,45,49,75,83],(.seq (.reg [mvS 2 (.mv (.const (.bool false)))]) (.seq (.reg [clE 11 42 [],csE 3 11]) (.seq (.seq (.reg [ceS 12 3,mvS 9 (.bin .eql .ptr (eV 12) (.const .bU))]) (.cond (sL 9) (.seq (.reg [mvS 2 (.mv (.const (.bool false)))]) .ret) .skip)) (.seq (.reg [ceS 15 3,clE 16 31 [eV 15,(.const (.bool false))],ceE 14 16,exE 17 0 14,exE 18 1 14,csE 4 17,csE 5 18]) (.seq (.reg [ceS 19 0,clE 20 43 [eV 19,(.const (.int .i64 20)),(.const (.int .i64 6)),(.const (.int .i64 9))],csE 6 20]) (.seq (.seq (.reg [ceS 21 4,mvE 22 (.bin .eql .ptr (eV 21) (.const .bU)),ceE 23 22, .mk (some ((eV 23),false)) (.env 24) (.mov (.mv (sL 5))), .mk (some ((eV 23),false)) (.env 25) (.mov (.bin .neq .no (eV 24) (.const (.int .i64 0)))),mvE 26 (.pick (eV 23) (.const (.bool true)) (eV 25)),ceE 27 26, .mk (some ((eV 27),false)) (.env 28) (.mov (.mv (sL 6))), .mk (some ((eV 27),false)) (.env 29) (.mov (.ah (eV 28))), .mk (some ((eV 27),false)) (.env 30) (.mov (.bin .gtr .no (eV 29) (.const (.int .i64 0)))), .mk (some ((eV 27),false)) (.env 31) (.mov (.mv (eV 30))), .mk (some ((eV 31),true)) (.env 32) (.mov (.mv (sL 4))), .mk (some ((eV 31),true)) (.env 33) (.mov (.mv (sL 6))), .mk (some ((eV 31),true)) (.env 34) (.call 22 [eV 32,eV 33]), .mk (some ((eV 31),true)) (.env 35) (.mov (.bin .neq .no (eV 34) (.const (.int .i64 0)))), .mk (some ((eV 27),false)) (.env 36) (.mov (.pick (eV 31) (eV 35) (.const (.bool false)))),mvE 37 (.pick (eV 27) (.const (.bool true)) (eV 36)),ceE 38 37, .mk (some ((eV 38),false)) (.env 39) (.mov (.mv (sL 1))), .mk (some ((eV 38),false)) (.env 40) (.mov (.mv (eV 39))), .mk (some ((eV 40),true)) (.env 41) (.mov (.mv (sL 4))), .mk (some ((eV 40),true)) (.env 42) (.call 44 [eV 41]), .mk (some ((eV 40),true)) (.env 43) (.mov (.bin .neq .no (eV 42) (.const (.int .i64 0)))), .mk (some ((eV 38),false)) (.env 44) (.mov (.pick (eV 40) (eV 43) (.const (.bool false)))),mvS 10 (.pick (eV 38) (.const (.bool true)) (eV 44))]) (.cond (sL 10) (.seq (.reg [mvS 2 (.mv (.const (.bool false)))]) .ret) .skip)) (.seq (.reg [mvS 7 (.mv (.const .ae))]) (.seq (.seq (.reg [mvS 8 (.mv (.const (.int .i64 0)))]) (.block 0 (.loop (.seq (.seq (.reg [ceS 46 8,ceS 47 6,lnE 48 47,mvS 11 (.bin .lss .no (eV 46) (eV 48))]) (.cond (sL 11) .skip (.exit 0))) (.seq (.block 1 (.reg [ceS 52 7,ceS 53 6,ceS 54 8,mvE 55 (.aP 3 (eV 53) (eV 54)),faE 56 0 55,ldE 57 56,mvE 58 (.bld [.ae, .ae,(.bool false)] [(0,1,(eV 57)),(2,1,(.const (.bool true)))]),efE 59 (.aF 3 1 [.ae, .ae,(.bool false)] [(0,3,(eV 58))]),efE 60 (.append 3 56 (eV 52) (eV 59)),csE 7 60])) (.reg [ceS 50 8,mvE 51 (.bin .add .no (eV 50) (.const (.int .i64 1))),csE 8 51])))))) (.seq (.seq (.reg [ceS 61 7,lnE 62 61,mvE 63 (.bin .gtr .no (eV 62) (.const (.int .i64 0))),ceE 64 63, .mk (some ((eV 64),true)) (.env 65) (.mov (.mv (sL 4))), .mk (some ((eV 64),true)) (.env 66) (.mov (.mv (sL 7))), .mk (some ((eV 64),true)) (.env 67) (.call 22 [eV 65,eV 66]), .mk (some ((eV 64),true)) (.env 68) (.mov (.bin .neq .no (eV 67) (.const (.int .i64 0)))),mvE 69 (.pick (eV 64) (eV 68) (.const (.bool false))),ceE 70 69, .mk (some ((eV 70),false)) (.env 71) (.mov (.mv (sL 4))), .mk (some ((eV 70),false)) (.env 72) (.call 47 [eV 71,(.const .ae),(.const .ae)]), .mk (some ((eV 70),false)) (.env 73) (.mov (.ah (eV 72))), .mk (some ((eV 70),false)) (.env 74) (.mov (.bin .neq .no (eV 73) (.const (.int .i64 0)))),mvS 12 (.pick (eV 70) (.const (.bool true)) (eV 74))]) (.cond (sL 12) (.seq (.reg [mvS 2 (.mv (.const (.bool false)))]) .ret) .skip)) (.seq (.seq (.reg [ceS 76 4,clE 77 44 [eV 76],mvE 78 (.bin .neq .no (eV 77) (.const (.int .i64 0))),ceE 79 78, .mk (some ((eV 79),false)) (.env 80) (.mov (.mv (sL 4))), .mk (some ((eV 79),false)) (.env 81) (.call 45 [eV 80]), .mk (some ((eV 79),false)) (.env 82) (.mov (.bin .neq .no (eV 81) (.const (.int .i64 0)))),mvS 13 (.pick (eV 79) (.const (.bool true)) (eV 82))]) (.cond (sL 13) (.seq (.reg [mvS 2 (.mv (.const (.bool false)))]) .ret) .skip)) (.seq (.reg [ceS 84 4,clE 85 52 [eV 84],mvE 86 (.bin .eql .no (eV 85) (.const (.int .i64 0))),ceE 87 86, .mk (some ((eV 87),true)) (.env 88) (.mov (.mv (sL 4))), .mk (some ((eV 87),true)) (.env 89) (.call 53 [eV 88]), .mk (some ((eV 87),true)) (.env 90) (.mov (.bin .eql .no (eV 89) (.const (.int .i64 0)))),mvE 91 (.pick (eV 87) (eV 90) (.const (.bool false))),ceE 92 91, .mk (some ((eV 92),true)) (.env 93) (.mov (.mv (sL 4))), .mk (some ((eV 92),true)) (.env 94) (.call 47 [eV 93,(.const .ae),(.const .ae)]), .mk (some ((eV 92),true)) (.env 95) (.mov (.ah (eV 94))), .mk (some ((eV 92),true)) (.env 96) (.mov (.bin .eql .no (eV 95) (.const (.int .i64 0)))),mvE 97 (.pick (eV 92) (eV 96) (.const (.bool false))),ceE 98 97, .mk (some ((eV 98),true)) (.env 99) (.call 48 []),mvE 100 (.pick (eV 98) (eV 99) (.const (.bool false))),csE 2 100]) .ret))))))))))),[.slot (sL 2)]⟩
structure Way (h h':Hp MD) (W W':Nat->Prop):Prop where
 k:Keep W h h'
 w:∀k,W' k->W k\/h.n<=k
theorem Way.refl {h:Hp MD} {W:Nat->Prop}:Way h h W W:=⟨Keep.refl _ _,fun _ q=> .inl q⟩
theorem Way.trans {h h1 h2:Hp MD} {W W1 W2:Nat->Prop} (a:Way h h1 W W1) (b:Way h1 h2 W1 W2):Way h h2 W W2:=by
 have:=a.k.n
 refine ⟨a.k.trans b.k fun k z1 z2=> ?_,fun k z=> ?_⟩
 ·rcases a.w k z2 with q|q
  ·exact q
  ·omega
 ·rcases b.w k z with q|q
  ·exact a.w k q
  ·exact .inr (by omega)
theorem Way.and {h h1 h2:Hp MD} {W W1:Nat->Prop} (a:Way h h1 W W1) (b:Keep NoB h1 h2):Way h h2 W W1:=⟨a.k.and b,a.w⟩
structure DbT (h:Hp MD) (db gd:Nat) (each:Bool) (K:KS) (W:Nat->Prop) (c s:Nat):Prop where
 g:DbG h db gd each K W (fun _=>True) c s
theorem DbT.up {h h':Hp MD} {db gd:Nat} {each:Bool} {K:KS} {W:Nat->Prop} {c s:Nat} (a:DbT h db gd each K W c s) (k:Keep NoB h h'):DbT h' db gd each K W c s:=⟨a.g.up k⟩
theorem J6.TZ {h h':Hp MD} {db gd:Nat} {each:Bool} {K':KS} {W F:Nat->Prop} {c s:Nat} (a:J6 h h' db gd each K' W F c s):∃W',DbT h' db gd each K' W' c s/\Way h h' W W':=by
 obtain ⟨W',g,k,w⟩:=a.out
 exact ⟨W',⟨g.on fun _ _=>trivial⟩,k,w⟩
theorem aN.way {h h':Hp MD} {W W' B:Nat->Prop} {v:AV} {l:List EM} (a:aN h v l B) (w:Way h h' W W') (hB:∀k,B k->k < h.n->¬W k):aN h' v l (fun k=>B k/\k < h.n)/\∀k,(B k/\k < h.n)->¬W' k:=by
 refine ⟨a.lt.keep w.k fun k q=>hB k q.1 q.2,fun k q q2=> ?_⟩
 rcases w.w k q2 with z|z
 ·exact hB k q.1 q.2 z
 ·omega
theorem J7 {n kl vl:Nat} (h1:1<=kl) (h2:kl<=20) (h3:vl<=20) (l:List EM):bP (xO n kl vl l)/\(xO n kl vl l).length<=n:=by
 refine ⟨fun e he=> ?_,by unfold xO;rw [List.length_map];exact List.length_take_le ..⟩
 unfold xO at he
 obtain ⟨x,_,rfl⟩:=List.mem_map.1 he
 unfold jB
 refine ⟨?_, ?_, ?_,fun hg=> ?_⟩
 ·simp only
  split
  ·decide
  ·omega
 ·simp only
  split
  ·simp
  ·have:=List.length_take_le kl x.key;omega
 ·simp only
  split
  ·simp
  ·have:=List.length_take_le vl x.val;omega
 ·simp only at hg
  simp [hg]
section
variable {E:Nat->Option (Ent MD)}
set_option maxHeartbeats 8000000 in
theorem Fj (hE:∀f e,E f=some e->e.plain) (T:KwV E) (acC:E 10=some (.bc kM)) {h:Hp MD} {v:AV} {l:List EM} {F0:Nat->Prop} (ha:aN h v l F0) (hal:l.length<=maxLen) (flush:Bool):
  WF (lim E) 10 [v, .bool flush] h fun r _=>r= .bool true:=by
 refine aC hE acC rfl ?_
 simp only [kM,mvE,mvS,clE,efE,ceS,ceE,csE,faE,nlE,ldE,lnE,exE,eV,sL,kI,List.map,getS]
 have hmx:(maxLen:Nat)=9223372036854775807:=rfl
 repeat first|refine ZA ?_|refine BP ?_|refine BQ ?_
 refine ag rfl ((xU hE T).mono fun r h1 ⟨e1,o1,k1⟩=> ?_)
 subst e1
 have n1:=k1.n
 have l1:=o1.lt
 repeat first|refine ZA ?_|refine BV (nC rfl) ?_|refine BP ?_|refine BQ ?_
 refine ag rfl ((Ua hE T.toKwP o1 false).mono fun r h2 ⟨db,K,W,e2,G,hh,ht,k2,w2,l2⟩=> ?_)
 subst e2
 have n2:=k2.n
 have G:DbT h2 db h.n false K W 0 1:=⟨G.on fun _ _=>trivial⟩
 have wlo:∀k,W k->h.n<=k:=fun k q=>by rcases w2 k q with q|q<;>omega
 have K2:Keep NoB h h2:=k1.own k2 (fun k q=>by have q:k=h.n:=q;omega)
 repeat first|refine ZA ?_|refine BP ?_|refine BQ ?_
 refine ag rfl ((Wp hE T.toWaK (ha.lt.up K2) (n:=20) (kl:=6) (vl:=9) (by omega) (by omega) (by omega) hal).mono fun xv h3 ⟨k3,o3⟩=> ?_)
 have sm:=J7 (n:=20) (kl:=6) (vl:=9) (by decide) (by decide) (by decide) l
 generalize xO 20 6 9 l=x at*
 obtain ⟨sm,xl⟩:=sm
 have en3:=o3.oM.on (G:=fun k=>k < h.n\/h2.n<=k) (fun k (q:_\/_)=>by rcases q with (q|q)|q;exact .inl q.2;exact .inr q;exact .inr q)
 have G3:=G.up k3
 have n3:=k3.n
 have Wlt:=G.g.lt
 have eB:∀k,(k < h.n\/h2.n<=k)->k < h3.n->¬W k:=fun k q _ q2=>by have:=Wlt k q2;have:=wlo k q2;omega
 clear o3
 obtain ⟨tri,hr3,htl,hq3,_⟩:=en3.out
 repeat first|refine ZA ?_|refine BP ?_|refine BQ ?_
 refine J8 (fun t' h'=>t'=[v, .bool flush, .bool false, .ptr h.n 0, .ptr db 0, .int .i64 0,xv, .bot, .bot, .bool false, .bool false, .bot, .bot, .bot]/\∃K1 W1 c1 s1,DbT h' db h.n false K1 W1 c1 s1/\Way h3 h' W W1/\c1<=20/\s1<=4/\(∀e∈kT K1,∃y∈x,y.key=e.key)/\(x=[]->K1.held=[]/\K1.tabs=[])) ?_ ?_
 ·have fl:∀{K1 W1 c1 s1 h'},DbT h' db h.n false K1 W1 c1 s1->Way h3 h' W W1->c1<=20->s1<=3->(∀e∈kT K1,∃y∈x,y.key=e.key)->(x=[]->K1.held=[]/\K1.tabs=[])->WF (lim E) 44 [.ptr db 0] h' fun r h''=>r= .int .i64 0/\∃K1 W1 c1 s1,DbT h'' db h.n false K1 W1 c1 s1/\Way h3 h'' W W1/\c1<=20/\s1<=4/\(∀e∈kT K1,∃y∈x,y.key=e.key)/\(x=[]->K1.held=[]/\K1.tabs=[]):=fun {K1 W1 c1 s1 h'} z1 z2 z3 z4 z5 z6=>by
   refine (J9 hE T.toKwP z1.g (by omega)).mono fun r h'' ⟨e1,K2,d,q1,q2⟩=>⟨e1, ?_⟩
   obtain ⟨W2,g2,w2⟩:=d.TZ
   refine ⟨K2,W2,c1,_,g2,z2.trans w2,z3,by omega, ?_,fun q=>⟨q1, ?_⟩⟩
   ·rw [Ag q1 q2];exact z5
   ·rw [q2,if_pos (z6 q).1];exact (z6 q).2
  by_cases hx0:x=[]
  ·have hl0:x.length=0:=by rw [hx0];rfl
   have a0:∀e∈kT K,∃y∈x,y.key=e.key:=fun e he=>by unfold kT at he;rw [hh,ht] at he;simp [joinL,dB,aY] at he
   cases flush with
   |false=>
    repeat first|refine ZA ?_|refine BV (nC rfl) ?_|refine BV (hr3.ah (by rfl)) ?_|refine BP ?_|refine BQ ?_
    exact bK ⟨rfl,K,W,0,1,G3,Way.refl,by decide,by decide,a0,fun _=>⟨hh,ht⟩⟩
   |true=>
    repeat first|refine ZA ?_|refine BV (nC rfl) ?_|refine BV (hr3.ah (by rfl)) ?_|refine BP ?_|refine BQ ?_
    refine ag rfl ((fl G3 Way.refl (by decide) (by decide) a0 (fun _=>⟨hh,ht⟩)).mono fun r h4 ⟨e4,q⟩=> ?_)
    subst e4
    repeat first|refine ZA ?_|refine BP ?_|refine BQ ?_
    exact bK ⟨rfl,q⟩
  ·have hl0:x.length≠0:=fun q=>hx0 (List.eq_nil_of_length_eq_zero q)
   have pt:=fun r h4=>(fun (q:r=AV.int .i64 0/\∃K',J6 h3 h4 db h.n false K' W (fun _=>True) (0+x.length) (1+2)/\K'.held=dB K.held x/\K'.tabs=K.tabs)=>(show r=AV.int .i64 0/\∃K1 W1,DbT h4 db h.n false K1 W1 (0+x.length) (1+2)/\Way h3 h4 W W1/\(∀e∈kT K1,∃y∈x,y.key=e.key) from by
    obtain ⟨e1,K1,d,q1,q2⟩:=q
    obtain ⟨W1,g1,w1⟩:=d.TZ
    refine ⟨e1,K1,W1,g1,w1,fun e he=> ?_⟩
    unfold kT at he
    rw [q1,q2,hh,ht] at he
    have he:e∈dB [] (dB [] x):=(List.mem_filter.1 he).1
    rcases lW he with z|⟨y,z,rfl⟩
    ·cases z
    ·rcases lW z with z2|⟨y2,z2,rfl⟩
     ·cases z2
     ·exact ⟨y2,z2,rfl⟩))
   cases flush with
   |false=>
    repeat first|refine ZA ?_|refine BV (nC rfl) ?_|refine BV (hr3.ah (by rfl)) ?_|refine BP ?_|refine BQ ?_
    refine ag rfl ((Ub hE T.toKwP G3.g en3.lt (fun k q=>eB k q.1 q.2) hx0 xl sm (by omega) (by decide)).mono fun r h4 q=> ?_)
    obtain ⟨e4,K1,W1,g1,w1,a1⟩:=pt r h4 q
    subst e4
    repeat first|refine ZA ?_|refine BP ?_|refine BQ ?_
    exact bK ⟨rfl,K1,W1,_,_,g1,w1,by omega,by decide,a1,fun q=>absurd q hx0⟩
   |true=>
    repeat first|refine ZA ?_|refine BV (nC rfl) ?_|refine BV (hr3.ah (by rfl)) ?_|refine BP ?_|refine BQ ?_
    refine ag rfl ((Ub hE T.toKwP G3.g en3.lt (fun k q=>eB k q.1 q.2) hx0 xl sm (by omega) (by decide)).mono fun r h4 q=> ?_)
    obtain ⟨e4,K1,W1,g1,w1,a1⟩:=pt r h4 q
    subst e4
    repeat first|refine ZA ?_|refine BP ?_|refine BQ ?_
    refine ag rfl ((fl g1 w1 (by omega) (by decide) a1 (fun q=>absurd q hx0)).mono fun r h5 ⟨e5,q⟩=> ?_)
    subst e5
    repeat first|refine ZA ?_|refine BP ?_|refine BQ ?_
    exact bK ⟨rfl,q⟩
 rintro t' h4 ⟨rfl,K1,W1,c1,s1,G1,w1,hc1,hs1,a1,z1⟩
 obtain ⟨en4,eB4⟩:=en3.way w1 eB
 obtain ⟨acD,hr4,htl4,hq4,_,hF4⟩:=en4.out
 have n4:=w1.k.n
 have acE:=G1.g.lt
 repeat first|refine ZA ?_|refine BP ?_|refine BQ ?_
 refine aQ (fun q t g=>∃(rv s11:AV) (j:Nat),j<=x.length/\q=x.length - j/\Keep NoB h4 g/\OE g rv (qE (x.take j)) h4.n (fun k=>(k < h.n\/h2.n<=k)/\k < h3.n)/\t=[v, .bool flush, .bool false, .ptr h.n 0, .ptr db 0, .int .i64 0,xv,rv, .int .i64 j, .bool false, .bool false,s11, .bot, .bot]) ?_ x.length _ _ ⟨.ae,_,0,by omega,by omega,Keep.refl _ _,OE.nil,rfl⟩
 rintro q t g ⟨rv,s11,j,hj,hq,Kp,o,rfl⟩
 have hrg:=hr4.up Kp
 have gn:=Kp.n
 by_cases hlt:j < x.length
 ·obtain ⟨e,he⟩:∃e,x[j]?=some e:=⟨_,List.getElem?_eq_getElem hlt⟩
  obtain ⟨q,hqi⟩:∃q,acD[j]?=some q:=⟨_,List.getElem?_eq_getElem (by omega)⟩
  have hv0:=(hq4 j q e hqi he).up Kp
  obtain ⟨ga,oa,pa,la,_⟩:=hrg.at3 hqi
  have la:∀{e:En} {t:List AV} {y:Od},y.ev e t= .ptr ga oa->(Mv.ld1 y).ev e t g=some q.1:=fun {_ _ _} hx=>la (Keep.refl NoB _) (fun _ _ q=>q) (j:=0) hx (by decide)
  have nv:eH g (q.1, .ae,true) ⟨e.key,[],true⟩:=⟨rfl,hv0.key,⟨rfl,rfl⟩,by intro q;cases q⟩
  obtain ⟨cells,c1',c2,c3⟩:=o.next nv (fun k z=>by
   rcases z with z|z
   ·have:=hF4 q (List.mem_of_getElem? hqi) k (.inl z)
    exact ⟨this,fun z2=>by have:=o.lo k z2;omega⟩
   ·exact z.elim) (by omega)
  have hgl:(qE (x.take j)).length=j:=by unfold qE;rw [List.length_map,List.length_take];omega
  rw [hgl] at c1' c3
  repeat first|refine ZA ?_|refine BV (hrg.ah (by rfl)) ?_|refine BV (pa rfl rfl) ?_|refine BV (la rfl) ?_|refine BV (yF rfl rfl hv0.key.one.1 rfl) ?_|refine BW (ji rfl hv0.key.one.2 rfl) ?_|refine BP ?_|refine BQ ?_
  refine aA rfl rfl c1' (by decide) c2 (by omega) (by omega) fun v' h5 a1 a2 a3=> ?_
  obtain ⟨o5,k5⟩:=c3 v' h5 a1 a2 a3
  repeat first|refine ZA ?_|refine BP ?_|refine BQ ?_
  refine aj (x.length - (j+1)) (by omega) ⟨v',_,j+1,by omega,rfl,Kp.trans k5 (fun k y1 y2=>by have:=o.lo k y2;omega), ?_,rfl⟩
  have:qE (x.take (j+1))=qE (x.take j)++[⟨e.key,[],true⟩]:=by unfold qE;rw [take_snoc he,List.map_append];rfl
  rw [this]
  exact o5
 ·obtain rfl:j=x.length:=by omega
  rw [List.take_length] at o
  have Gg:=G1.up Kp
  have gl:(qE x).length=x.length:=by unfold qE;rw [List.length_map]
  obtain ⟨tg,hg,_⟩:=o.oM.out
  rw [gl] at hg
  repeat first|refine ZA ?_|refine BV (hrg.ah (by rfl)) ?_|refine BP ?_|refine BQ ?_
  refine J8 (fun t' h'=>t'=[v, .bool flush, .bool false, .ptr h.n 0, .ptr db 0, .int .i64 0,xv,rv, .int .i64 x.length, .bool false, .bool false, .bool false, .bool false, .bot]/\∃K2 W2 c2 s2,DbT h' db h.n false K2 W2 c2 s2/\s2<=6/\kT K2=[]) ?_ ?_
  ·by_cases hx0:x=[]
   ·have hl0:x.length=0:=by rw [hx0];rfl
    have a0:kT K1=[]:=by unfold kT;rw [(z1 hx0).1,(z1 hx0).2];rfl
    rw [hl0] at hg
    repeat first|refine ZA ?_|refine BV (hg.ah (by rfl)) ?_|refine BP ?_|refine BQ ?_
    refine ag rfl ((ZW hE T.toKwP Gg.g).mono fun r h5 ⟨k5,o5⟩=> ?_)
    rw [a0] at o5
    obtain ⟨t5,h5r,_⟩:=o5.out
    repeat first|refine ZA ?_|refine BV (h5r.rs.ah (by rfl)) ?_|refine BP ?_|refine BQ ?_
    exact bK ⟨by rw [hl0];rfl,K1,W1,c1,s1,Gg.up k5,by omega,a0⟩
   ·have hl0:x.length≠0:=fun q=>hx0 (List.eq_nil_of_length_eq_zero q)
    have gne:qE x≠[]:=fun q=>hl0 (by rw [<-gl,q];rfl)
    have gsm:bP (qE x):=fun e he=>by
     unfold qE at he
     obtain ⟨y,hy,rfl⟩:=List.mem_map.1 he
     exact ⟨(sm y hy).k1,(sm y hy).k2,Nat.zero_le _,fun _=>rfl⟩
    repeat first|refine ZA ?_|refine BV (hg.ah (by rfl)) ?_|refine BP ?_|refine BQ ?_
    refine ag rfl ((Ub hE T.toKwP Gg.g o.oM (fun k q q2=>by
     rcases q with q|q
     ·exact eB4 k q q2
     ·have:=acE k q2;omega) gne (by omega) gsm (by omega) (by omega)).mono fun r h5 ⟨e5,K2,d,q1,q2⟩=> ?_)
    subst e5
    obtain ⟨W2,G2,w2'⟩:=d.TZ
    have a2:kT K2=[]:=by rw [Iy Gg.g.len.2.2.2.2 _ q1 q2];exact Uc a1
    repeat first|refine ZA ?_|refine BP ?_|refine BQ ?_
    refine ag rfl ((ZW hE T.toKwP G2.g).mono fun r h6 ⟨k6,o6⟩=> ?_)
    rw [a2] at o6
    obtain ⟨t6,h6r,_⟩:=o6.out
    repeat first|refine ZA ?_|refine BV (h6r.rs.ah (by rfl)) ?_|refine BP ?_|refine BQ ?_
    exact bK ⟨rfl,K2,W2,_,_,G2.up k6,by omega,a2⟩
  rintro t' h5 ⟨rfl,K2,W2,c2,s2,G2,hs2,a2⟩
  repeat first|refine ZA ?_|refine BP ?_|refine BQ ?_
  refine ag rfl ((J9 hE T.toKwP G2.g (by omega)).mono fun r h6 ⟨e6,K3,d,q1,q2⟩=> ?_)
  subst e6
  obtain ⟨W3,G3,_⟩:=d.TZ
  have a3:aY (joinL K3.tabs)=[]:=by
   have:=Ag q1 q2
   rw [a2] at this
   unfold kT at this
   rw [q1] at this
   exact this
  repeat first|refine ZA ?_|refine BP ?_|refine BQ ?_
  refine ag rfl ((Ud hE T.toKwP G3.g (by omega)).mono fun r h7 ⟨e7,K4,d,q3,q4⟩=> ?_)
  subst e7
  obtain ⟨W4,G4,_⟩:=d.TZ
  rw [if_pos a3] at q4
  rw [q1] at q3
  have l1':(K4.tabs.length:Int)=0:=by rw [q4];rfl
  have l2':(K4.held.length:Int)=0:=by rw [q3];rfl
  have a4:kT K4=[]:=by unfold kT;rw [q3,q4];rfl
  repeat first|refine ZA ?_|refine BP ?_|refine BQ ?_
  refine ag rfl ((Io hE T.toKwT G4.g.d).mono fun r h8 ⟨e8,e9⟩=> ?_)
  subst e8 e9
  rw [l1']
  repeat first|refine ZA ?_|refine BP ?_|refine BQ ?_
  refine ag rfl ((Ip hE T.toKwT G4.g.d).mono fun r h9 ⟨e8,e9⟩=> ?_)
  subst e8 e9
  rw [l2']
  repeat first|refine ZA ?_|refine BP ?_|refine BQ ?_
  refine ag rfl ((ZW hE T.toKwP G4.g).mono fun r h10 ⟨k10,o10⟩=> ?_)
  rw [a4] at o10
  obtain ⟨t10,acF,_⟩:=o10.out
  repeat first|refine ZA ?_|refine BV (acF.rs.ah (by rfl)) ?_|refine BP ?_|refine BQ ?_
  refine ag rfl ((Iz hE T).mono fun r h11 e11=> ?_)
  subst e11
  repeat first|refine ZA ?_|refine BP ?_|refine BQ ?_
  rfl
end
end Am
end Go.Proofs.YtbnkdnlfdofepaaGreat
