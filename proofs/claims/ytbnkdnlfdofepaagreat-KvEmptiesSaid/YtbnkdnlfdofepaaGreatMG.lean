/- slices.Index of ints, and chapter 10's own question whether a list may be, told by plain functions. slices.Index of ints and chapter 10's question as functions of the table. The plain machine: a function that lays one new row and changes nothing else, as a function of the table; numbers put behind bytes. Numbers put behind bytes: octet.Put, chapter 2's Put, slices.Clone of bytes. -/
import Derived.Test.YtbnkdnlfdofepaaGreatMC
import Derived.Test.YtbnkdnlfdofepaaGreatMF
import Derived.Test.YtbnkdnlfdofepaaGreatRows
import Derived.KernelRfl
set_option linter.unusedVariables false
set_option linter.unusedSimpArgs false
namespace Go.Proofs.YtbnkdnlfdofepaaGreat
namespace Am
open Go.RowKit
set_option maxRecDepth 100000
def qg:BF:=⟨19,[0,1,4,5,7,8,9,16],(.seq (.reg [mvS 2 (.mv (.const (.int .i64 0)))]) (.seq (.seq (.reg [ceS 6 0,mvS 4 (.ah (eV 6)),mvS 5 (.mv (.const (.int .i64 0)))]) (.block 0 (.loop (.seq (.reg [mvS 6 (.bin .lss .no (sL 5) (sL 4))]) (.seq (.cond (sL 6) .skip (.exit 0)) (.seq (.block 1 (.seq (.reg [ceS 10 5,csE 3 10]) (.seq (.reg [ceS 11 1,ceS 12 0,ceS 13 3,mvE 14 (.aP 1 (eV 12) (eV 13)),ldE 15 14,mvS 7 (.bin .eql .no (eV 11) (eV 15))]) (.cond (sL 7) (.seq (.reg [ceS 17 3,csE 2 17]) .ret) .skip)))) (.reg [mvE 18 (.bin .add .no (sL 5) (.const (.int .i64 1))),csE 5 18]))))))) (.seq (.reg [mvS 2 (.mv (.const (.int .i64 (-1))))]) .ret))),[.slot (sL 2)]⟩
section
variable {X:Type} {E:Nat->Option (Ent X)}
def iv (n:Int):AV:= .int .i64 n
theorem int_eq {k:IntKind} {a b:Int} (h:a=b):AV.int k a=AV.int k b:=by rw [h]
noncomputable def GN (x:Int) (l:List Int):Nat->Int:=List.rec (motive:=fun _=>Nat->Int) (fun _=>Int.negSucc 0) (fun y _ ih k=>Bool.rec (motive:=fun _=>Int) (ih (Nat.succ k)) (Int.ofNat k) (Gy x y)) l
theorem Cj (x y:Int) (l:List Int) (k:Nat):GN x (y::l) k=if x=y then (k:Int) else GN x l (k+1):=by
 show (Bool.rec (GN x l (Nat.succ k)) (Int.ofNat k) (Gy x y):Int)=_
 rw [GI]
 by_cases h:x=y
 ·subst h;simp
 ·rw [if_neg h,beq_false_of_ne h]
theorem drop_at {l:List Int} {i:Int} (h0:0<=i) (hi:i < l.length):l.drop i.toNat=l.getD i.toNat 0::l.drop (i+1).toNat:=by
 obtain ⟨j,rfl⟩:=Int.eq_ofNat_of_zero_le h0
 have hj:j < l.length:=by omega
 have e:((j:Int)+1).toNat=j+1:=by omega
 rw [e,Int.toNat_natCast,List.drop_eq_getElem_cons hj,List.getD_eq_getElem?_getD,List.getElem?_eq_getElem hj]
 rfl
theorem zg {l:List Int} {i:Int} (h0:0<=i) (hi:i < l.length):(l.map iv)[i.toNat]?=some (.int .i64 (l.getD i.toNat 0)):=by
 obtain ⟨j,rfl⟩:=Int.eq_ofNat_of_zero_le h0
 have hj:j < l.length:=by omega
 rw [Int.toNat_natCast,List.getElem?_map,List.getD_eq_getElem?_getD,List.getElem?_eq_getElem hj]
 rfl
theorem Zh (hE:∀f e,E f=some e->e.plain) (hf:E 183=some (.bc qg)) {h:Hp X} {v:AV} {l:List Int} {x:Int} (hr:RS h 1 v l.length (l.map iv)) (hlen:l.length<=maxLen):
  WF (lim E) 183 [v, .int .i64 x] h fun r h'=>h'=h/\r= .int .i64 (GN x l 0):=by
 refine aC hE hf rfl ?_
 simp only [qg,mvE,mvS,clE,efE,ceS,ceE,csE,faE,nlE,ldE,lnE,exE,eV,sL,kI,List.map,getS]
 have hm:(maxLen:Int)=9223372036854775807:=rfl
 repeat first|refine ZA ?_|refine BV (hr.ah (by rfl)) ?_|refine BP ?_|refine BQ ?_
 refine aQ (fun n t h'=>h'=h/\∃(i:Int) (s3 s6 s7:AV),0<=i/\i<=l.length/\(n:Int)=l.length - i/\GN x (l.drop i.toNat) i.toNat=GN x l 0/\t=[v, .int .i64 x, .int .i64 0,s3, .int .i64 l.length, .int .i64 i,s6,s7]) ?_ l.length _ _ ⟨rfl,0,_,_,_,by omega,by omega,by omega,rfl,rfl⟩
 rintro n t h' ⟨rfl,i,s3,s6,s7,h0,hi,hn,hx,rfl⟩
 by_cases hlt:i < l.length
 ·obtain ⟨g,o,ha,hl⟩:=hr.at1 h0 hlt
  rw [zg h0 hlt] at hl
  rw [drop_at h0 hlt,Cj] at hx
  by_cases he:x=l.getD i.toNat 0
  ·repeat first|refine ZA ?_|refine BV (ha rfl rfl) ?_|refine BV (hl rfl) ?_|refine BP ?_|refine BQ ?_
   refine ⟨rfl, ?_⟩
   rw [if_pos he] at hx
   rw [<-hx]
   exact int_eq (by omega)
  ·repeat first|refine ZA ?_|refine BV (ha rfl rfl) ?_|refine BV (hl rfl) ?_|refine BP ?_|refine BQ ?_
   refine aj (n - 1) (by omega) ⟨rfl,i+1,_,_,_,by omega,by omega,by omega, ?_,rfl⟩
   rw [if_neg he] at hx
   rw [<-hx]
   congr 1
   omega
 ·repeat first|refine ZA ?_|refine BP ?_|refine BQ ?_
  refine ⟨rfl, ?_⟩
  have e:i.toNat=l.length:=by omega
  rw [e,List.drop_length] at hx
  rw [<-hx]
  rfl
noncomputable def Js (y:Int) (l:List Int):Bool:=List.rec (motive:=fun _=>Bool) false (fun x _ ih=>Bool.rec (motive:=fun _=>Bool) ih true (Gy x y)) l
theorem zh {y:Int}:∀{l:List Int},Js y l=true↔y∈l
 |[]=>by simp [Js]
 |x::l=>by
  have e:Js y (x::l)=(Bool.rec (Js y l) true (Gy x y):Bool):=rfl
  rw [e,GI,List.mem_cons]
  by_cases h:x=y
  ·subst h;simp
  ·rw [beq_false_of_ne h]
   simp only [zh (l:=l)]
   constructor
   ·exact .inr
   ·rintro (h'|h')
    ·exact absurd h'.symm h
    ·exact h'
noncomputable def Ep (next:Int) (l:List Int):List Int->Bool:=List.rec (motive:=fun _=>List Int->Bool) (fun _=>true) (fun y _ ih seen=>Bool.rec (motive:=fun _=>Bool) (Bool.rec (motive:=fun _=>Bool) false (Bool.rec (motive:=fun _=>Bool) (ih (y::seen)) false (Js y seen)) (Eh y next)) false (Eh y 0)) l
theorem Cm (next y:Int) (r seen:List Int):Ep next (y::r) seen=if y < 0\/next<=y\/y∈seen then false else Ep next r (y::seen):=by
 show (Bool.rec (Bool.rec false (Bool.rec (Ep next r (y::seen)) false (Js y seen)) (Eh y next)) false (Eh y 0):Bool)=_
 rw [jP,jP]
 by_cases h1:y < 0
 ·simp [h1]
 ·by_cases h2:y < next
  ·simp only [h1,h2,decide_true,decide_false,false_or,show¬next<=y by omega]
   cases hm:Js y seen with
   |true=>rw [if_pos (zh.1 hm)]
   |false=>rw [if_neg (fun h=>by rw [zh.2 h] at hm;cases hm)]
  ·simp [h1,h2,show next<=y by omega]
noncomputable def xm (l:List Int) (wal next:Int):Bool:=
 Nat.ble l.length 255 && (Lh (Eh wal 0) && (Lh (Eh next 0) && (Lh (Eh 16777215 next) && (Eh wal next && Ep next l []))))
theorem take_at {l:List Int} {i:Int} (h0:0<=i) (hi:i < l.length):(l.take (i+1).toNat).reverse=l.getD i.toNat 0::(l.take i.toNat).reverse:=by
 obtain ⟨j,rfl⟩:=Int.eq_ofNat_of_zero_le h0
 have hj:j < l.length:=by omega
 have e:((j:Int)+1).toNat=j+1:=by omega
 rw [e,Int.toNat_natCast,List.take_succ_eq_append_getElem hj,List.reverse_append,List.getD_eq_getElem?_getD,List.getElem?_eq_getElem hj]
 rfl
end
variable {P:Program}
variable {P:Program}
def dD:BF:=⟨8,[0,2,4],(.seq (.reg [mvS 1 (.mv (.const .ae))]) (.seq (.seq (.reg [ceS 3 0,mvS 2 (.bin .eql .slice (eV 3) (.const .ae))]) (.cond (sL 2) (.seq (.reg [mvS 1 (.mv (.const .ae))]) .ret) .skip)) (.seq (.reg [efE 5 (.aF 1 0 [(.int .u8 0)] []),ceS 6 0,efE 7 (.append 1 1 (eV 5) (eV 6)),csE 1 7]) .ret))),[.slot (sL 1)]⟩
def fA:BF:=⟨28,[0,1,2,6,7,8,16],(.seq (.reg [mvS 3 (.mv (.const .ae))]) (.seq (.reg [ceS 9 0,clE 10 112 [eV 9],csE 4 10]) (.seq (.seq (.reg [ceS 11 2,mvE 12 (.Nk (eV 11) (.const (.int .i64 8))),mvE 13 (.FQ (eV 12) (.const (.int .i64 0))),mvE 14 (.bin .sub .no (eV 13) (.const (.int .i64 1))),csE 5 14]) (.block 0 (.loop (.seq (.seq (.reg [ceS 15 5,mvS 6 (.bin .geq .no (eV 15) (.const (.int .i64 0)))]) (.cond (sL 6) .skip (.exit 0))) (.seq (.block 1 (.reg [ceS 19 4,ceS 20 1,ceS 21 5,mvE 22 (.bin .mul .no (.const (.int .i64 8)) (eV 21)),mvE 23 (.bin .shr .no (eV 20) (eV 22)),mvE 24 (.conv .u8 (eV 23)),efE 25 (.aF 1 1 [(.int .u8 0)] [(0,1,(eV 24))]),efE 26 (.append 1 1 (eV 19) (eV 25)),csE 4 26])) (.reg [ceS 17 5,mvE 18 (.bin .sub .no (eV 17) (.const (.int .i64 1))),csE 5 18])))))) (.seq (.reg [ceS 27 4,csE 3 27]) .ret)))),[.slot (sL 3)]⟩
section
variable {X:Type} {E:Nat->Option (Ent X)}
theorem aaJ {v:AV} (hv:v≠ .bV) {h:Hp X} {n z:Nat} {cells:List AV} (hr:RS h z v n cells):(v= .ae/\n=0/\cells=[]/\(∀{e:En} {t:List AV} {x:Od},x.ev e t=v->(Mv.bin .eql .slice x (.const .ae)).ev e t h=some (.bool true)))\/(v≠ .ae/\(∀{e:En} {t:List AV} {x:Od},x.ev e t=v->(Mv.bin .eql .slice x (.const .ae)).ev e t h=some (.bool false))):=by
 cases v<;>first|exact hr.elim|exact absurd rfl hv|skip
 ·exact .inr ⟨(fun e=>by cases e),fun {e t x} hx=>by show bin .eql .slice (x.ev e t) .ae=_;rw [hx];rfl⟩
 ·exact .inl ⟨rfl,hr.1,hr.2,fun {e t x} hx=>by show bin .eql .slice (x.ev e t) .ae=_;rw [hx];rfl⟩
def vO (h:Hp X) (h':Hp X) (v:AV):Prop:=Keep NoB h h'/\∀g,blk v g->h.n<=g
theorem QU {e:En} {t:List AV} {h:Hp X} {z:Nat} {zero:List AV}:(Ef.aF z 0 zero []).ev e t h=some (.slice z h.n 0 0 (some 0),h.push (.rw [])):=by
 simp only [Ef.ev,List.map,rep,fillA,allOne,List.length_nil,Nat.zero_mul,Nat.beq_refl,Bool.true_and]
 rfl
theorem GR {h:Hp X} {z:Nat} (hz:0 < z):OS (h.push (.rw [])) z (.slice z h.n 0 0 (some 0)) 0 []:=
 ⟨rfl,rfl,hz,Nat.lt_succ_self _,[],Hp.aK _ _,by simp,by simp,by simp⟩
theorem lU (hE:∀f e,E f=some e->e.plain) (hf:E 112=some (.bc dD)) {h:Hp X} {v:AV} {n:Nat} {cells:List AV} (hr:RS h 1 v n cells) (hv:v≠ .bV) (hn:n<=140737488355328):
  WF (lim E) 112 [v] h fun r h'=>vO h h' r/\OS h' 1 r n cells:=by
 refine aC hE hf rfl ?_
 simp only [dD,mvE,mvS,clE,efE,ceS,ceE,csE,faE,nlE,ldE,lnE,exE,eV,sL,kI,List.map,getS]
 rcases aaJ hv hr with ⟨rfl,rfl,rfl,hc⟩|⟨hne,hc⟩
 ·repeat first|refine ZA ?_|refine BV (hc (by rfl)) ?_|refine BP ?_|refine BQ ?_
  exact ⟨⟨Keep.refl _ _,fun g hg=>hg.elim⟩,rfl,rfl⟩
 ·repeat first|refine ZA ?_|refine BV (hc (by rfl)) ?_|refine BW QU ?_|refine BP ?_|refine BQ ?_
  have hm:(maxLen:Nat)=9223372036854775807:=rfl
  refine aA (n:=0) (m:=n) (cells:=[]) rfl rfl (GR Nat.zero_lt_one) Nat.zero_lt_one (hr.keep (Keep.push NoB _ _) (fun _ _ q=>q)) (by omega) (by omega) fun v' h' h1 h2 h3=> ?_
  repeat first|refine ZA ?_|refine BP ?_|refine BQ ?_
  refine ⟨⟨(Keep.push NoB _ _).trans h2 (fun g hg hb=> ?_),fun g hg=> ?_⟩,by rw [Nat.zero_add] at h1;exact h1⟩
  ·cases hb;omega
  ·rcases h3 g hg with hb|hb
   ·cases hb;exact Nat.le_refl _
   ·exact Nat.le_trans (Nat.le_succ _) hb
noncomputable def xY (m:Nat) (k:Nat):List AV:=Nat.rec (motive:=fun _=>List AV) [] (fun k ih=>Jm (Y8 .u8 (.ofNat (Nat.div m (Nat.pow 2 (Nat.mul 8 k))))) fun b=> .int .u8 b::ih) k
theorem CE (m k:Nat):xY m (k+1)= .int .u8 (wr .u8 ((m / 2^(8*k):Nat):Int))::xY m k:=by
 show Jm (Y8 .u8 (.ofNat (Nat.div m (Nat.pow 2 (Nat.mul 8 k))))) (fun b=>AV.int .u8 b::xY m k)=_
 rw [NM,VW]
 rfl
theorem V4 {m j:Nat} (hj:j < 8):(Int.ofNat m).fdiv (2^(min (8*(j:Int)).toNat 64))=((m / 2^(8*j):Nat):Int):=by
 have e1:min (8*(j:Int)).toNat 64=8*j:=by omega
 rw [e1]
 have e2:(2:Int)^(8*j)=((2^(8*j):Nat):Int):=by norm_cast
 rw [e2,Int.fdiv_eq_ediv_of_nonneg _ (Int.natCast_nonneg _)]
 rfl
theorem qh (hE:∀f e,E f=some e->e.plain) (hf:E 66=some (.bc fA)) (hf2:E 112=some (.bc dD)) {h:Hp X} {v:AV} {n:Nat} {cells:List AV} (hr:RS h 1 v n cells) (hv:v≠ .bV) (hn:n+8<=140737488355328) {m:Nat} {size:Int} {k:Nat} (hk:max (min size 8) 0=k):
  WF (lim E) 66 [v, .int .u64 m, .int .i64 size] h fun r h'=>vO h h' r/\OS h' 1 r (n+k) (cells++xY m k):=by
 refine aC hE hf rfl ?_
 simp only [fA,mvE,mvS,clE,efE,ceS,ceE,csE,faE,nlE,ldE,lnE,exE,eV,sL,kI,List.map,getS]
 have hk8:k<=8:=by omega
 have hm:(maxLen:Nat)=9223372036854775807:=rfl
 repeat first|refine ZA ?_|refine BP ?_|refine BQ ?_
 refine ag rfl ((lU hE hf2 hr hv (by omega)).mono fun r h1 ⟨k1,k2⟩=> ?_)
 repeat first|refine ZA ?_|refine BV (aaG rfl rfl) ?_|refine BV (XV rfl rfl) ?_|refine BP ?_|refine BQ ?_
 rw [hk]
 refine aQ (fun j t h'=>∃(r:AV) (i:Int) (s6:AV),vO h h' r/\i+1=j/\j<=k/\(∃pre,OS h' 1 r (n+(k - j)) (cells++pre)/\pre++xY m j=xY m k)/\t=[v, .int .u64 m, .int .i64 size, .ae,r, .int .i64 i,s6]) ?_ k _ _ ⟨r,_,_,k1,by omega,Nat.le_refl _,⟨[],by simpa using k2,rfl⟩,rfl⟩
 rintro j t h' ⟨r,i,s6,g1,hij,hjk,⟨pre,g2,g3⟩,rfl⟩
 by_cases hi:0<=i
 ·obtain ⟨j,rfl⟩:∃j',j=j'+1:=⟨j - 1,by omega⟩
  have hij':i=j:=by omega
  subst hij'
  repeat first|refine ZA ?_|refine BV (XU rfl rfl (by omega)) ?_|refine BW (Eo rfl) ?_|refine BP ?_|refine BQ ?_
  refine aA rfl rfl (g2.keep (Keep.push NoB _ _) (fun _ _ q=>q)) Nat.zero_lt_one (bH rfl) (by omega) (by omega) fun v' h2 a1 a2 a3=> ?_
  repeat first|refine ZA ?_|refine BP ?_|refine BQ ?_
  have a1:OS h2 1 v' (n+(k - (j+1))+1) (cells++pre++[.int .u8 (wr .u8 ((m / 2^(8*j):Nat):Int))]):=by
   rw [<-V4 (by omega)]
   exact a1
  refine aj j (Nat.lt_succ_self _) ⟨v',_,_,⟨(g1.1.trans (Keep.push NoB _ _) (fun _ _ q=>q)).trans a2 (fun g hg hb=> ?_),fun g hg=> ?_⟩,by omega,by omega,⟨pre++[.int .u8 (wr .u8 ((m / 2^(8*j):Nat):Int))], ?_, ?_⟩,rfl⟩
  ·have:=g1.2 g hb;omega
  ·rcases a3 g hg with hb|hb
   ·exact g1.2 g hb
   ·exact Nat.le_trans g1.1.n (Nat.le_trans (Nat.le_succ _) hb)
  ·rw [<-List.append_assoc,show n+(k - j)=n+(k - (j+1))+1 by omega]
   exact a1
  ·rw [<-g3,CE,List.append_assoc,List.singleton_append]
 ·have hj:j=0:=by omega
  subst hj
  repeat first|refine ZA ?_|refine BP ?_|refine BQ ?_
  have e:pre=xY m k:=by rw [<-g3];exact (List.append_nil pre).symm
  refine ⟨g1, ?_⟩
  rw [<-e]
  exact g2
end
end Am
end Go.Proofs.YtbnkdnlfdofepaaGreat
