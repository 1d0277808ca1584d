/- Package frame: a record's head, and a record put behind others. Package frame: the records of a row of bytes. Package frame: bytes that are read, where they lack a panic. -/
import Derived.Test.YtbnkdnlfdofepaaGreatMH
set_option linter.unusedVariables false
set_option linter.unusedSimpArgs false
namespace Go.Proofs.YtbnkdnlfdofepaaGreat
namespace Am
open Go.RowKit
set_option maxRecDepth 100000
def gQ:BF:=⟨36,[0,2,3,4,5,6,19],(.seq (.reg [mvS 1 (.mv (.const (.int .i64 0))),mvS 2 (.mv (.const (.bool false)))]) (.seq (.reg [ceS 9 0,clE 10 115 [eV 9,(.const (.int .i64 3))],ceE 8 10,exE 11 0 8,exE 12 1 8,csE 3 11,csE 4 12]) (.seq (.seq (.reg [ceS 13 4,mvE 14 (.jd (eV 13)),ceE 15 14, .mk (some ((eV 15),false)) (.env 16) (.mov (.mv (sL 0))), .mk (some ((eV 15),false)) (.env 17) (.mov (.ah (eV 16))), .mk (some ((eV 15),false)) (.env 18) (.mov (.bin .lss .no (eV 17) (.const (.int .i64 6)))),mvS 6 (.pick (eV 15) (.const (.bool true)) (eV 18))]) (.cond (sL 6) (.seq (.reg [mvS 1 (.mv (.const (.int .i64 0))),mvS 2 (.mv (.const (.bool false)))]) .ret) .skip)) (.seq (.reg [ceS 21 0,mvE 22 (.sl 1 (eV 21) (some (.const (.int .i64 3))) none none),clE 23 115 [eV 22,(.const (.int .i64 3))],ceE 20 23,exE 24 0 20,exE 25 1 20,csE 5 24,ceE 7 25]) (.seq (.reg [ceS 26 3,mvE 27 (.conv .i64 (eV 26)),ceS 28 3,ceS 29 5,mvE 30 (.bin .xor .no (eV 28) (eV 29)),mvE 31 (.bin .eql .no (eV 30) (.const (.int .u64 16777215))),ceE 32 31, .mk (some ((eV 32),true)) (.env 33) (.mov (.mv (sL 3))), .mk (some ((eV 32),true)) (.env 34) (.mov (.bin .leq .no (eV 33) (.const (.int .u64 1048576)))),mvE 35 (.pick (eV 32) (eV 34) (.const (.bool false))),csE 1 27,csE 2 35]) .ret))))),[.slot (sL 1), .slot (sL 2)]⟩
def mW:BF:=⟨23,[0,1,4,5,6,7,10],(.seq (.reg [mvS 2 (.mv (.const .ae)),mvS 3 (.mv (.const (.int .i64 0)))]) (.seq (.seq (.reg [ceS 8 1,lnE 9 8,mvS 6 (.bin .gtr .no (eV 9) (.const (.int .i64 1048576)))]) (.cond (sL 6) (.seq (.reg [mvS 2 (.mv (.const .ae)),mvS 3 (.mv (.const (.int .i64 3)))]) .ret) .skip)) (.seq (.reg [ceS 11 1,lnE 12 11,mvE 13 (.conv .u64 (eV 12)),csE 4 13]) (.seq (.reg [ceS 14 0,ceS 15 4,clE 16 66 [eV 14,eV 15,(.const (.int .i64 3))],ceS 17 4,mvE 18 (.bin .xor .no (eV 17) (.const (.int .u64 16777215))),clE 19 66 [eV 16,eV 18,(.const (.int .i64 3))],csE 5 19]) (.seq (.reg [ceS 20 5,ceS 21 1,efE 22 (.append 1 1 (eV 20) (eV 21)),csE 2 22,mvS 3 (.mv (.const (.int .i64 0)))]) .ret))))),[.slot (sL 2), .slot (sL 3)]⟩
section
variable {e:En} {t:List AV} {X:Type} {h:Hp X}
theorem Lm {q:Eq} {x y:Od} {a b:Nat} (hx:x.ev e t= .int .u64 (a:Int)) (hy:y.ev e t= .int .u64 (b:Int)) (ha:a < 16777216) (hb:b < 16777216):(Mv.bin .xor q x y).ev e t h=some (.int .u64 ((a^^^b:Nat):Int)):=by
 have e0:∀n:Nat,n < 18446744073709551616->(BitVec.ofInt 64 (n:Int)).toNat=n:=fun n hn=>by
  rw [BitVec.toNat_ofInt]
  omega
 have hl:a^^^b < 16777216:=Nat.xor_lt_two_pow (n:=24) ha hb
 have e1:(BitVec.ofInt IntKind.u64.bits (a:Int)^^^BitVec.ofInt IntKind.u64.bits (b:Int)).toNat=a^^^b:=by
  show (BitVec.ofInt 64 (a:Int)^^^BitVec.ofInt 64 (b:Int)).toNat=a^^^b
  rw [BitVec.toNat_xor,e0 _ (by omega),e0 _ (by omega)]
 have e3:((a^^^b:Nat):Int) % 2^64=((a^^^b:Nat):Int):=by omega
 have e4:wr .u64 ((a^^^b:Nat):Int)=((a^^^b:Nat):Int):=by
  simp only [wr,IntKind.wrap,IntKind.signed,IntKind.bits,e3]
  simp
 simp only [Mv.ev,hx,hy,Am.bin,AV.onInt,isShift,Bool.false_or,decide_true,cond_true,intOp,e1,e4]
theorem be3 (l:List UInt8):be (l.take 3) < 16777216:=Nat.lt_of_lt_of_le (GU _) (Nat.le_trans (Nat.pow_le_pow_right (by omega) (show (l.take 3).length<=3 by rw [List.length_take];omega)) (by decide))
end
section
variable {X:Type} {E:Nat->Option (Ent X)}
theorem OS.vP {h:Hp X} {z n:Nat} {v:AV} {cells:List AV} (a:OS h z v n cells):v≠ .bV:=by rintro rfl;exact a.elim
def kN (bs:List UInt8):Nat×Bool:=if bs.length < 6 then (0,false) else (be (bs.take 3),decide (be (bs.take 3)^^^be ((bs.drop 3).take 3)=16777215/\be (bs.take 3)<=1048576))
theorem GV (hE:∀f e,E f=some e->e.plain) (hf:E 152=some (.bc gQ)) (hg:E 115=some (.bc dU)) {h:Hp X} {v:AV} {bs:List UInt8} (hr:RS h 1 v bs.length (bs.map ub)):
  WF (lim E) 152 [v] h fun r h'=>h'=h/\r= .tup [.int .i64 (kN bs).1, .bool (kN bs).2]:=by
 refine aC hE hf rfl ?_
 simp only [gQ,mvE,mvS,clE,efE,ceS,ceE,csE,faE,nlE,ldE,lnE,exE,eV,sL,kI,List.map,getS]
 repeat first|refine ZA ?_|refine BP ?_|refine BQ ?_
 by_cases h3:bs.length < 3
 ·refine ag rfl ((Zi hE hg hr (n:=3) (by omega)).mono fun r h1 ⟨e1,e2⟩=> ?_)
  subst e1 e2
  repeat first|refine ZA ?_|refine BV (hr.ah (by rfl)) ?_|refine BP ?_|refine BQ ?_
  refine ⟨rfl, ?_⟩
  unfold kN
  rw [if_pos (by omega)]
  rfl
 ·refine ag rfl ((rq hE hg hr (n:=3) (by omega) (by omega)).mono fun r h1 ⟨e1,e2⟩=> ?_)
  subst e1 e2
  by_cases h6:bs.length < 6
  ·repeat first|refine ZA ?_|refine BV (hr.ah (by rfl)) ?_|refine BP ?_|refine BQ ?_
   refine ⟨rfl, ?_⟩
   unfold kN
   rw [if_pos h6]
   rfl
  ·obtain ⟨v2,hr2,_,_,hs2⟩:=hr.sl (lo:=3) (hi:=bs.length) (by omega) (Nat.le_refl _)
   have e5:((bs.map ub).drop (3*1)).take ((bs.length - 3)*1)=(bs.drop 3).map ub:=by
    rw [Nat.mul_one,Nat.mul_one,<-List.map_drop,<-List.map_take,List.take_of_length_le (by rw [List.length_drop];exact Nat.le_refl _)]
   have e6:bs.length - 3=(bs.drop 3).length:=by rw [List.length_drop]
   rw [e5,e6] at hr2
   have b1:=be3 bs
   have b2:=be3 (bs.drop 3)
   repeat first|refine ZA ?_|refine BV (hr.ah (by rfl)) ?_|refine BV (hs2 (by rfl) (.inr ⟨_,_,rfl,rfl⟩) (.inl ⟨rfl,rfl⟩)) ?_|refine BP ?_|refine BQ ?_
   refine ag rfl ((rq hE hg hr2 (n:=3) (by omega) (by rw [List.length_drop];omega)).mono fun r h1 ⟨e1,e2⟩=> ?_)
   subst e1 e2
   have hl:kN bs=(be (bs.take 3),decide (be (bs.take 3)^^^be ((bs.drop 3).take 3)=16777215/\be (bs.take 3)<=1048576)):=by unfold kN;rw [if_neg h6]
   rw [hl]
   generalize be (bs.take 3)=n at*
   generalize be ((bs.drop 3).take 3)=m at*
   by_cases hx:n^^^m=16777215
   ·have hxi:((n^^^m:Nat):Int)=16777215:=by omega
    by_cases hn:n<=1048576
    ·repeat first|refine ZA ?_|refine BV (cZ rfl (by omega)) ?_|refine BV (Lm rfl rfl b1 b2) ?_|refine BP ?_|refine BQ ?_
     refine ⟨rfl, ?_⟩
     rw [decide_eq_true (show n^^^m=16777215/\n<=1048576 from ⟨hx,hn⟩)]
     rfl
    ·have hn':¬((n:Int)<=1048576):=by omega
     repeat first|refine ZA ?_|refine BV (cZ rfl (by omega)) ?_|refine BV (Lm rfl rfl b1 b2) ?_|refine BP ?_|refine BQ ?_
     refine ⟨rfl, ?_⟩
     rw [decide_eq_false (show¬(n^^^m=16777215/\n<=1048576) from fun q=>hn q.2)]
     rfl
   ·have hxi:¬((n^^^m:Nat):Int)=16777215:=by omega
    repeat first|refine ZA ?_|refine BV (cZ rfl (by omega)) ?_|refine BV (Lm rfl rfl b1 b2) ?_|refine BP ?_|refine BQ ?_
    refine ⟨rfl, ?_⟩
    rw [decide_eq_false (show¬(n^^^m=16777215/\n<=1048576) from fun q=>hx q.1)]
    rfl
theorem vO.trans {h h1 h2:Hp X} {v w:AV} (a:vO h h1 v) (b:vO h1 h2 w):vO h h2 w:=⟨a.1.trans b.1 (fun _ _ q=>q),fun g hg=>Nat.le_trans a.1.n (b.2 g hg)⟩
noncomputable def recC (n:Nat):List AV:=xY n 3++xY (n^^^16777215) 3
theorem QV (hE:∀f e,E f=some e->e.plain) (hf:E 106=some (.bc mW)) (hg:E 66=some (.bc fA)) (hc:E 112=some (.bc dD)) {h:Hp X} {v r:AV} {n m:Nat} {cells rec:List AV} (hv:RS h 1 v n cells) (hs:v≠ .bV) (hr:RS h 1 r m rec) (hn:n<=70368744177664) (hm:m<=1048576):
  WF (lim E) 106 [v,r] h fun x h'=>∃o,x= .tup [o, .int .i64 0]/\vO h h' o/\OS h' 1 o (n+6+m) (cells++recC m++rec):=by
 refine aC hE hf rfl ?_
 simp only [mW,mvE,mvS,clE,efE,ceS,ceE,csE,faE,nlE,ldE,lnE,exE,eV,sL,kI,List.map,getS]
 have hm':¬(1048576:Int) < m:=by omega
 repeat first|refine ZA ?_|refine BV (hr.ah (by rfl)) ?_|refine BV (cO rfl (by omega)) ?_|refine BP ?_|refine BQ ?_
 refine ag rfl ((qh hE hg hc hv hs (by omega) (m:=m) (size:=3) (k:=3) (by decide)).mono fun o1 h1 ⟨k1,k2⟩=> ?_)
 repeat first|refine ZA ?_|refine BV (Lm (b:=16777215) rfl rfl (by omega) (by omega)) ?_|refine BP ?_|refine BQ ?_
 refine ag rfl ((qh hE hg hc k2.rs k2.vP (by omega) (m:=m^^^16777215) (size:=3) (k:=3) (by decide)).mono fun o2 h2 ⟨k3,k4⟩=> ?_)
 repeat first|refine ZA ?_|refine BP ?_|refine BQ ?_
 have hmx:(maxLen:Nat)=9223372036854775807:=rfl
 have k5:=k1.trans k3
 refine aA rfl rfl k4 Nat.zero_lt_one (hr.keep k5.1 (fun _ _ q=>q)) (by omega) (by omega) fun o3 h3 a1 a2 a3=> ?_
 repeat first|refine ZA ?_|refine BP ?_|refine BQ ?_
 refine ⟨_,rfl,⟨k5.1.trans a2 (fun g hg hb=> ?_),fun g hg=> ?_⟩, ?_⟩
 ·have:=k5.2 g hb;omega
 ·rcases a3 g hg with hb|hb
  ·exact k5.2 g hb
  ·exact Nat.le_trans k5.1.n hb
 ·have e:cells++recC m++rec=cells++xY m 3++xY (m^^^16777215) 3++rec:=by simp [recC,List.append_assoc]
  rw [e]
  exact a1
end
def qj:BF:=⟨51,[0,2,3,4,5,6,7,8,9,18,34],(.seq (.reg [mvS 1 (.mv (.const .ae)),mvS 2 (.mv (.const (.int .i64 0))),mvS 3 (.mv (.const (.int .i64 0)))]) (.seq (.reg [mvS 4 (.mv (.const .ae))]) (.seq (.reg [mvS 5 (.mv (.const (.int .i64 0)))]) (.block 0 (.loop (.block 1 (.seq (.reg [ceS 10 0,ceS 11 5,mvE 12 (.sl 1 (eV 10) (some (eV 11)) none none),csE 6 12]) (.seq (.reg [ceS 14 6,clE 15 152 [eV 14],ceE 13 15,exE 16 0 13,exE 17 1 13,csE 7 16,csE 8 17]) (.seq (.block 2 (.seq (.reg [ceS 19 6,lnE 20 19,mvE 21 (.bin .lss .no (eV 20) (.const (.int .i64 6))),ceE 22 21, .mk (some ((eV 22),false)) (.env 23) (.mov (.mv (sL 8))), .mk (some ((eV 22),false)) (.env 24) (.mov (.mv (eV 23))), .mk (some ((eV 24),true)) (.env 25) (.mov (.mv (sL 7))), .mk (some ((eV 24),true)) (.env 26) (.mov (.mv (sL 6))), .mk (some ((eV 24),true)) (.env 27) (.mov (.ah (eV 26))), .mk (some ((eV 24),true)) (.env 28) (.mov (.bin .sub .no (eV 27) (.const (.int .i64 6)))), .mk (some ((eV 24),true)) (.env 29) (.mov (.bin .gtr .no (eV 25) (eV 28))), .mk (some ((eV 22),false)) (.env 30) (.mov (.pick (eV 24) (eV 29) (.const (.bool false)))),mvE 31 (.pick (eV 22) (.const (.bool true)) (eV 30)),csE 9 31]) (.cond (sL 9) (.seq (.reg [ceS 32 4,ceS 33 5,csE 1 32,csE 2 33,mvS 3 (.mv (.const (.int .i64 0)))]) .ret) (.seq (.reg [ceS 35 8,mvE 36 (.jd (eV 35)),csE 10 36]) (.cond (sL 10) (.seq (.reg [ceS 37 4,ceS 38 5,csE 1 37,csE 2 38,mvS 3 (.mv (.const (.int .i64 14)))]) .ret) .skip))))) (.seq (.reg [ceS 39 4,ceS 40 6,ceS 41 7,mvE 42 (.bin .add .no (.const (.int .i64 6)) (eV 41)),mvE 43 (.sl 1 (eV 40) (some (.const (.int .i64 6))) (some (eV 42)) none),clE 44 112 [eV 43],efE 45 (.aF 1 1 [.ae] [(0,1,(eV 44))]),efE 46 (.append 1 24 (eV 39) (eV 45)),csE 4 46]) (.reg [ceS 47 5,ceS 48 7,mvE 49 (.bin .add .no (.const (.int .i64 6)) (eV 48)),mvE 50 (.bin .add .no (eV 47) (eV 49)),csE 5 50]))))))))))),[.slot (sL 1), .slot (sL 2), .slot (sL 3)]⟩
def allG:Nat->List UInt8->List (List UInt8)×Nat×Bool
 |0,_=>([],0,true)
 |k+1,rest=>
  if rest.length < 6\/((kN rest).2=true/\rest.length - 6 < (kN rest).1) then ([],0,true)
  else if (kN rest).2=false then ([],0,false)
  else ((rest.drop 6).take (kN rest).1::(allG k (rest.drop (6+(kN rest).1))).1,6+(kN rest).1+(allG k (rest.drop (6+(kN rest).1))).2.1,(allG k (rest.drop (6+(kN rest).1))).2.2)
section
variable {X:Type} {E:Nat->Option (Ent X)}
def aaK (h:Hp X) (v:AV) (recs:List (List UInt8)) (lo:Nat):Prop:=∃cells,OS h 1 v recs.length cells/\(∀g,blk v g->lo<=g)/\
 ∀(i:Nat) (r:List UInt8),recs[i]?=some r->∃c,cells[i]?=some c/\c≠ .bV/\RS h 1 c r.length (r.map ub)/\∀g,blk c g->lo<=g/\¬blk v g
theorem RS.bytes {h:Hp X} {v:AV} {bs:List UInt8} (a:RS h 1 v bs.length (bs.map ub)) {lo hi:Nat} (h1:lo<=hi) (h2:hi<=bs.length):∃v',RS h 1 v' ((bs.drop lo).take (hi - lo)).length (((bs.drop lo).take (hi - lo)).map ub)/\(∀g,blk v' g->blk v g)/\(v≠ .bV->v'≠ .bV)/\
  ∀{hh:Hp X} {e:En} {t:List AV} {x:Od} {ol oh:Option Od},x.ev e t=v->Bnd ol e t lo 0->Bnd oh e t hi bs.length->(Mv.sl 1 x ol oh none).ev e t hh=some v':=by
 obtain ⟨v',k1,k2,k3,k4⟩:=a.sl h1 h2
 refine ⟨v', ?_,k2,k3,k4⟩
 have e1:((bs.map ub).drop (lo*1)).take ((hi - lo)*1)=((bs.drop lo).take (hi - lo)).map ub:=by rw [Nat.mul_one,Nat.mul_one,<-List.map_drop,<-List.map_take]
 have e2:hi - lo=((bs.drop lo).take (hi - lo)).length:=by rw [List.length_take,List.length_drop];omega
 rw [e1] at k1
 rw [<-e2]
 exact k1
theorem dO {e:En} {t:List AV} {h:Hp X} {x:Od} {c zero:AV} (hx:x.ev e t=c) (hc:cellsOf c=some [c]) (h1:c.one=true):(Ef.aF 1 1 [zero] [(0,1,x)]).ev e t h=some (.slice 1 h.n 0 1 (some 1),h.push (.rw [c])):=by
 have ho:allOne [c]=true:=by
  unfold allOne
  cases c<;>first|(cases h1;done)|rfl
 have hf:fillA (rep [zero] 1) [(0,1,c)]=some [c]:=by
  simp only [fillA,rep,hc]
  rfl
 simp only [Ef.ev,List.map,hx]
 rw [hf]
 show (bif allOne [c] && Nat.beq 1 (1*1) && Nat.ble 1 maxLen then some (AV.slice 1 h.n 0 1 (some 1),h.push (.rw [c])) else none)=_
 rw [ho]
 rfl
theorem OS.one {h:Hp X} {z n:Nat} {v:AV} {cells:List AV} (a:OS h z v n cells):cellsOf v=some [v]/\v.one=true:=by
 cases v<;>first|exact a.elim|exact ⟨rfl,rfl⟩
theorem GX (hE:∀f e,E f=some e->e.plain) (hf:E 117=some (.bc qj)) (hl:E 152=some (.bc gQ)) (hg:E 115=some (.bc dU)) (hc:E 112=some (.bc dD)) {h:Hp X} {v:AV} {bs:List UInt8} (hr:RS h 1 v bs.length (bs.map ub)) (hb:bs.length<=1099511627776):
  WF (lim E) 117 [v] h fun x h'=>∃o,x= .tup [o, .int .i64 (allG (bs.length+1) bs).2.1, .int .i64 (if (allG (bs.length+1) bs).2.2 then 0 else 14)]/\Keep NoB h h'/\aaK h' o (allG (bs.length+1) bs).1 h.n:=by
 refine aC hE hf rfl ?_
 simp only [qj,mvE,mvS,clE,efE,ceS,ceE,csE,faE,nlE,ldE,lnE,exE,eV,sL,kI,List.map,getS]
 have hmx:(maxLen:Nat)=9223372036854775807:=rfl
 repeat first|refine ZA ?_|refine BP ?_|refine BQ ?_
 have hA0:allG (bs.length+1) (bs.drop 0)=allG (bs.length+1) bs:=by rw [List.drop_zero]
 generalize allG (bs.length+1) bs=A at hA0 ⊢
 refine aQ (fun k t h'=>∃(o s1 s2 s3 s6 s7 s8 s9 s10:AV) (at':Nat) (pre:List (List UInt8)),Keep NoB h h'/\aaK h' o pre h.n/\at'<=bs.length/\bs.length - at' < k/\pre.length*6<=at'/\
  pre++(allG k (bs.drop at')).1=A.1/\at'+(allG k (bs.drop at')).2.1=A.2.1/\(allG k (bs.drop at')).2.2=A.2.2/\t=[v,s1,s2,s3,o, .int .i64 at',s6,s7,s8,s9,s10]) ?_ (bs.length+1) _ _ ⟨.ae,_,_,_,_,_,_,_,_,0,[],Keep.refl _ _,⟨[],⟨rfl,rfl⟩,(fun g q=>q.elim),fun i r hi=>by simp at hi⟩,by omega,by omega,by simp,by rw [hA0];simp,by rw [hA0];simp,by rw [hA0],rfl⟩
 rintro k t h' ⟨o,s1,s2,s3,s6,s7,s8,s9,s10,at',pre,hk,hrec,hat,hfu,hpre,q1,q2,q3,rfl⟩
 obtain ⟨k,rfl⟩:∃k',k=k'+1:=⟨k - 1,by omega⟩
 have hr':=hr.keep hk (fun _ _ q=>q)
 obtain ⟨rv,r1,r2,r3,r4⟩:=hr'.bytes (lo:=at') (hi:=bs.length) hat (Nat.le_refl _)
 have e1:(bs.drop at').take (bs.length - at')=bs.drop at':=List.take_of_length_le (by rw [List.length_drop];exact Nat.le_refl _)
 rw [e1] at r1
 have hrl:(bs.drop at').length=bs.length - at':=List.length_drop
 generalize hrs:bs.drop at'=rest at*
 repeat first|refine ZA ?_|refine BV (r4 (by rfl) (.inr ⟨_,_,rfl,rfl⟩) (.inl ⟨rfl,rfl⟩)) ?_|refine BP ?_|refine BQ ?_
 refine ag rfl ((GV hE hl hg r1).mono fun x h1 ⟨x1,x2⟩=> ?_)
 subst x1 x2
 have hlt:(kN rest).1 < 16777216:=by unfold kN;split;decide;exact be3 _
 simp only [allG] at q1 q2 q3
 cases hp:kN rest with
 |mk n ok=>
 rw [hp] at q1 q2 q3 hlt
 simp only at q1 q2 q3 hlt
 by_cases c1:rest.length < 6
 ·rw [if_pos (.inl c1)] at q1 q2 q3
  repeat first|refine ZA ?_|refine BV (r1.ah (by rfl)) ?_|refine BP ?_|refine BQ ?_
  refine ⟨o, ?_,hk,by rw [<-q1];simpa using hrec⟩
  rw [<-q2,<-q3]
  rfl
 have hc6:¬(rest.length:Int) < 6:=by omega
 cases ok with
 |false=>
  rw [if_neg (by rintro (q|⟨q,_⟩);exact c1 q;cases q),if_pos rfl] at q1 q2 q3
  repeat first|refine ZA ?_|refine BV (r1.ah (by rfl)) ?_|refine BP ?_|refine BQ ?_
  refine ⟨o, ?_,hk,by rw [<-q1];simpa using hrec⟩
  rw [<-q2,<-q3]
  rfl
 |true=>
  by_cases c2:rest.length - 6 < n
  ·rw [if_pos (.inr ⟨rfl,c2⟩)] at q1 q2 q3
   repeat first|refine ZA ?_|refine BV (r1.ah (by rfl)) ?_|refine BP ?_|refine BQ ?_
   refine ⟨o, ?_,hk,by rw [<-q1];simpa using hrec⟩
   rw [<-q2,<-q3]
   rfl
  ·rw [if_neg (by rintro (q|⟨_,q⟩);exact c1 q;exact c2 q),if_neg (by decide)] at q1 q2 q3
   obtain ⟨cv,d1,d2,d3,d4⟩:=r1.bytes (lo:=6) (hi:=6+n) (by omega) (by omega)
   have e2:(rest.drop 6).take (6+n - 6)=(rest.drop 6).take n:=by rw [Nat.add_sub_cancel_left]
   rw [e2] at d1
   have hnl:((rest.drop 6).take n).length=n:=by rw [List.length_take,List.length_drop];omega
   have aaL:v≠ .bV:=by
    rintro rfl
    have:bs.length=0:=hr.1
    omega
   repeat first|refine ZA ?_|refine BV (r1.ah (by rfl)) ?_|refine BV (d4 (by rfl) (.inr ⟨_,_,rfl,rfl⟩) (.inr ⟨_,_,rfl,by rfl⟩)) ?_|refine BP ?_|refine BQ ?_
   rw [hnl] at d1
   refine ag rfl ((lU hE hc d1 (d3 (r3 aaL)) (by omega)).mono fun c h2 ⟨w1,w2⟩=> ?_)
   repeat first|refine ZA ?_|refine BW (dO rfl w2.one.1 w2.one.2) ?_|refine BP ?_|refine BQ ?_
   obtain ⟨cells,g1,g2,g3⟩:=hrec
   have g1':=(g1.keep w1.1 (fun _ _ q=>q)).keep (Keep.push NoB h2 (.rw [c])) (fun _ _ q=>q)
   refine aA rfl rfl g1' Nat.zero_lt_one (bH rfl) (by omega) (by omega) fun o' h3 a1 a2 a3=> ?_
   repeat first|refine ZA ?_|refine BP ?_|refine BQ ?_
   have k2:Keep NoB h h2:=hk.trans w1.1 (fun _ _ q=>q)
   have k3:Keep NoB h h3:=(k2.trans (Keep.push NoB h2 (.rw [c])) (fun _ _ q=>q)).trans a2 (fun g hg hb=>by have:=g2 g hb;omega)
   have ed:bs.drop (at'+(6+n))=rest.drop (6+n):=by rw [<-hrs,List.drop_drop]
   rw [show ((at':Int)+(6+(n:Int)))=((at'+(6+n):Nat):Int) by omega]
   refine aj k (Nat.lt_succ_self _) ⟨o',_,_,_,_,_,_,_,_,at'+(6+n),pre++[(rest.drop 6).take n],k3,⟨cells++[c], ?_, ?_, ?_⟩,by omega,by omega, ?_, ?_, ?_, ?_,rfl⟩
   ·rw [List.length_append,List.length_singleton];exact a1
   ·intro g hg
    rcases a3 g hg with hb|hb
    ·exact g2 g hb
    ·have:=k2.n;exact Nat.le_trans this (Nat.le_trans (Nat.le_succ _) hb)
   ·intro i r hi
    have hcl:cells.length=pre.length:=by have:=g1.len;omega
    rw [List.getElem?_append] at hi
    by_cases hil:i < pre.length
    ·rw [if_pos hil] at hi
     obtain ⟨c',f1,f2,f3,f4⟩:=g3 i r hi
     refine ⟨c',by rw [List.getElem?_append_left (by omega)];exact f1,f2, ?_,fun g hg=>⟨(f4 g hg).1,fun hb=> ?_⟩⟩
     ·exact ((f3.keep w1.1 (fun _ _ q=>q)).keep (Keep.push NoB h2 (.rw [c])) (fun _ _ q=>q)).keep a2 (fun g hg=>(f4 g hg).2)
     ·rcases a3 g hb with hb|hb
      ·exact (f4 g hg).2 hb
      ·have:=f3.lt g hg
       have:=w1.1.n
       have:h2.n+1<=g:=hb
       omega
    ·rw [if_neg hil] at hi
     have hi0:i - pre.length=0:=by
      have:=(List.getElem?_eq_some_iff.1 hi).1
      simp at this
      omega
     rw [hi0] at hi
     simp only [List.getElem?_cons_zero,Option.some.injEq] at hi
     subst hi
     refine ⟨c,by rw [List.getElem?_append_right (by omega),show i - cells.length=0 by omega];rfl,w2.vP, ?_,fun g hg=>⟨Nat.le_trans hk.n (w1.2 g hg),fun hb=> ?_⟩⟩
     ·rw [hnl]
      exact (w2.rs.keep (Keep.push NoB h2 (.rw [c])) (fun _ _ q=>q)).keep a2 (fun g hg hb=>by
       have:=g1.lt g hb
       have:=w1.2 g hg
       omega)
     ·rcases a3 g hb with hb|hb
      ·have:=g1.lt g hb
       have:=w1.2 g hg
       omega
      ·have:=w2.lt g hg
       have:h2.n+1<=g:=hb
       omega
   ·rw [List.length_append,List.length_singleton];omega
   ·rw [ed,List.append_assoc,List.singleton_append];exact q1
   ·rw [ed]
    have q2':at'+(6+n+(allG k (rest.drop (6+n))).2.1)=A.2.1:=q2
    omega
   ·rw [ed];exact q3
end
def fB:BF:=⟨31,[0,1,4,5,12],(.seq (.reg [mvS 2 (.mv (.const .ae))]) (.seq (.seq (.reg [ceS 6 1,ceS 7 0,nlE 8 7,faE 9 0 8,ldE 10 9,lnE 11 10,mvS 4 (.bin .gtr .no (eV 6) (eV 11))]) (.cond (sL 4) (.reg [mvE 13 (.yL 28 (.const (.int .i64 12))), .mk none .none (.pan (eV 13))]) .skip)) (.seq (.reg [ceS 14 0,nlE 15 14,faE 16 0 15,ldE 17 16,ceS 18 1,mvE 19 (.sl 1 (eV 17) none (some (eV 18)) none),clE 20 112 [eV 19],csE 3 20]) (.seq (.reg [ceS 21 0,ceS 22 0,nlE 23 22,faE 24 0 23,ldE 25 24,ceS 26 1,mvE 27 (.sl 1 (eV 25) (some (eV 26)) none none),nlE 28 21,faE 29 0 28, .mk none .none (.eff (.store 1 (eV 29) (eV 27)))]) (.seq (.reg [ceS 30 3,csE 2 30]) .ret))))),[.slot (sL 2)]⟩
def eQ:BF:=⟨17,[0,1,4,5],(.seq (.reg [mvS 2 (.mv (.const (.int .i64 0)))]) (.seq (.reg [ceS 8 0,ceS 9 1,clE 10 186 [eV 8,eV 9],ceS 11 1,clE 12 115 [eV 10,eV 11],ceE 7 12,exE 13 0 7,exE 14 1 7,csE 3 13,ceE 6 14]) (.seq (.reg [ceS 15 3,mvE 16 (.conv .i64 (eV 15)),csE 2 16]) .ret))),[.slot (sL 2)]⟩
section
variable {X:Type} {E:Nat->Option (Ent X)}
theorem RS.one {h:Hp X} {z n:Nat} {v:AV} {cells:List AV} (a:RS h z v n cells):cellsOf v=some [v]/\v.one=true:=by
 cases v<;>first|exact a.elim|exact ⟨rfl,rfl⟩
structure Rdr (h:Hp X) (g m:Nat) (bs:List UInt8):Prop where
 lt:g < h.n
 ok:∃bv,h.get g=some (.rw [bv])/\RS h 1 bv bs.length (bs.map ub)/\bv≠ .bV/\∀k,blk bv k->k≠g/\k < m
theorem Rdr.keep {S:Nat->Prop} {h h':Hp X} {g m:Nat} {bs:List UInt8} (a:Rdr h g m bs) (k:Keep S h h') (hs:∀bv,h.get g=some (.rw [bv])->∀j,blk bv j->¬S j) (hg:¬S g):Rdr h' g m bs:=by
 obtain ⟨lt,bv,h1,h2,h3,h4⟩:=a
 exact ⟨Nat.lt_of_lt_of_le lt k.n,bv,by rw [k.get g lt hg];exact h1,h2.keep k (hs bv h1),h3,h4⟩
theorem Lp (hE:∀f e,E f=some e->e.plain) (hf:E 186=some (.bc fB)) (hc:E 112=some (.bc dD)) {h:Hp X} {g n m:Nat} {bs:List UInt8} (hr:Rdr h g m bs) (hn:n<=bs.length) (hb:bs.length<=1099511627776):
  WF (lim E) 186 [.ptr g 0, .int .i64 n] h fun r h'=>Rdr h' g m (bs.drop n)/\Keep (az g) h h'/\(∀k,blk r k->h.n<=k)/\OS h' 1 r (bs.take n).length ((bs.take n).map ub):=by
 obtain ⟨lt,bv,h1,h2,h3,h4⟩:=hr
 obtain ⟨v1,p1,p2,p3,p4⟩:=h2.bytes (lo:=0) (hi:=n) (Nat.zero_le _) hn
 rw [List.drop_zero,Nat.sub_zero] at p1
 have hn':¬(bs.length:Int) < n:=by omega
 have hl0:(bs.take n).length=n:=by rw [List.length_take];omega
 refine aC hE hf rfl ?_
 simp only [fB,mvE,mvS,clE,efE,ceS,ceE,csE,faE,nlE,ldE,lnE,exE,eV,sL,kI,List.map,getS]
 repeat first|refine ZE ?_|refine BV (ak rfl) ?_|refine BV (eG rfl h1 rfl) ?_|refine BV (h2.ah (by rfl)) ?_|refine BV (p4 (by rfl) (.inl ⟨rfl,rfl⟩) (.inr ⟨_,_,rfl,rfl⟩)) ?_|refine BP ?_|refine BQ ?_
 refine ag rfl ((lU hE hc p1 (p3 h3) (by omega)).mono fun r k1 ⟨w1,w2⟩=> ?_)
 have g1:k1.get g=some (.rw [bv]):=by rw [w1.1.get g lt (fun q=>q)];exact h1
 have r2:=h2.keep w1.1 (fun _ _ q=>q)
 obtain ⟨v2,s1,s2,s3,s4⟩:=r2.bytes (lo:=n) (hi:=bs.length) hn (Nat.le_refl _)
 have e1:(bs.drop n).take (bs.length - n)=bs.drop n:=List.take_of_length_le (by rw [List.length_drop];exact Nat.le_refl _)
 rw [e1] at s1
 repeat first|refine ZE ?_|refine BV (ak rfl) ?_|refine BV (eG rfl g1 rfl) ?_|refine BV (s4 (by rfl) (.inr ⟨_,_,rfl,rfl⟩) (.inl ⟨rfl,rfl⟩)) ?_|refine BW (sS rfl rfl s1.one g1 (Nat.lt_succ_self 0)) ?_|refine BP ?_|refine BQ ?_
 have kp:Keep (az g) k1 (k1.put g (.rw (spl 0 [v2] [bv]))):=Keep.put k1 g _ rfl
 refine ⟨⟨Nat.lt_of_lt_of_le lt w1.1.n,v2,Hp.bW _ _ _,s1.keep kp (fun k hk hb=>(h4 k (s2 k hk)).1 hb),s3 h3,fun k hk=>h4 k (s2 k hk)⟩,(w1.1.mono (fun _ _ q=>q.elim)).trans kp (fun _ _ q=>q),w1.2,w2.keep kp (fun k hk hb=> ?_)⟩
 have:=w1.2 k hk
 have hb':k=g:=hb
 omega
theorem Lr (hE:∀f e,E f=some e->e.plain) (hf:E 186=some (.bc fB)) {h:Hp X} {g n m:Nat} {bs:List UInt8} (hr:Rdr h g m bs) (hn:bs.length < n):
  WP (lim E) 186 [.ptr g 0, .int .i64 n] h fun v h'=>(∃ty x,v= .iface ty x)/\h'=h:=by
 obtain ⟨lt,bv,h1,h2,h3,h4⟩:=hr
 have hn':(bs.length:Int) < n:=by omega
 refine XW hE hf rfl ?_
 simp only [fB,mvE,mvS,clE,efE,ceS,ceE,csE,faE,nlE,ldE,lnE,exE,eV,sL,kI,List.map,getS]
 repeat first|refine ZE ?_|refine BV (ak rfl) ?_|refine BV (eG rfl h1 rfl) ?_|refine BV (h2.ah (by rfl)) ?_|refine BP ?_|refine BQ ?_
 refine Zf rfl ?_
 repeat first|refine ZE ?_|refine BP ?_|refine BQ ?_
 exact ⟨⟨_,_,rfl⟩,rfl⟩
theorem NT (hE:∀f e,E f=some e->e.plain) (hf:E 175=some (.bc eQ)) (ht:E 186=some (.bc fB)) (hc:E 112=some (.bc dD)) (hg:E 115=some (.bc dU)) {h:Hp X} {g n m:Nat} {bs:List UInt8} (hr:Rdr h g m bs) (hn:n<=bs.length) (h7:n<=7) (hb:bs.length<=1099511627776):
  WF (lim E) 175 [.ptr g 0, .int .i64 n] h fun r h'=>Rdr h' g m (bs.drop n)/\Keep (az g) h h'/\r= .int .i64 (be (bs.take n)):=by
 refine aC hE hf rfl ?_
 simp only [eQ,mvE,mvS,clE,efE,ceS,ceE,csE,faE,nlE,ldE,lnE,exE,eV,sL,kI,List.map,getS]
 repeat first|refine ZE ?_|refine BP ?_|refine BQ ?_
 refine ag rfl ((Lp hE ht hc hr hn hb).mono fun r k1 ⟨a1,a2,a3,a4⟩=> ?_)
 have hl0:(bs.take n).length=n:=by rw [List.length_take];omega
 repeat first|refine ZE ?_|refine BP ?_|refine BQ ?_
 refine ag rfl ((rq hE hg (n:=n) a4.rs (by omega) (by omega)).mono fun r2 k2 ⟨e1,e2⟩=> ?_)
 subst e1 e2
 have e3:(bs.take n).take n=bs.take n:=by rw [List.take_take,Nat.min_self]
 rw [e3]
 have hlt:=GU (bs.take n)
 rw [hl0] at hlt
 have h56:be (bs.take n) < 72057594037927936:=Nat.lt_of_lt_of_le hlt (Nat.le_trans (Nat.pow_le_pow_right (by omega) h7) (by decide))
 repeat first|refine ZE ?_|refine BV (cZ rfl (by omega)) ?_|refine BP ?_|refine BQ ?_
 exact ⟨a1,a2,rfl⟩
theorem NU (hE:∀f e,E f=some e->e.plain) (hf:E 175=some (.bc eQ)) (ht:E 186=some (.bc fB)) {h:Hp X} {g n m:Nat} {bs:List UInt8} (hr:Rdr h g m bs) (hn:bs.length < n):
  WP (lim E) 175 [.ptr g 0, .int .i64 n] h fun v h'=>(∃ty x,v= .iface ty x)/\h'=h:=by
 refine XW hE hf rfl ?_
 simp only [eQ,mvE,mvS,clE,efE,ceS,ceE,csE,faE,nlE,ldE,lnE,exE,eV,sL,kI,List.map,getS]
 repeat first|refine ZE ?_|refine BP ?_|refine BQ ?_
 obtain ⟨v,h',e,q,rfl⟩:=(Lr hE ht hr hn).out
 refine Ci rfl ⟨⟨v,h',e, ?_⟩⟩
 repeat first|refine ZE ?_|refine BP ?_|refine BQ ?_
 exact ⟨q,rfl⟩
end
end Am
end Go.Proofs.YtbnkdnlfdofepaaGreat
