/- Slices that are cut; package octet's Get, chapter 2's Get. A law's row out of its walk: the law answers true, and nothing that lay there has turned. Opening an argument that is a list of lists: its cells as they are read. The plain machine: a law with arguments: what it reads lies there; then it runs. The plain machine: two disks alike. The disk in plain Lean while power stays: what each call does to names, bytes and room. No program. The plain machine: helpers for walks: what is kept, boxes, calls of the disk. -/
import Derived.Test.YtbnkdnlfdofepaaGreatMG
import Derived.Test.YtbnkdnlfdofepaaGreatMA
import Derived.ProofKit
import Derived.OpenShut
import Derived.WideKeyArgs
import Derived.ChangeSlices
import Derived.SliceStrings
import Derived.Deep.Slices
import Derived.Deep.Fields
import Derived.Test.YtbnkdnlfdofepaaGreatMF
import Derived.Test.YtbnkdnlfdofepaaGreatMC
import Derived.Test.YtbnkdnlfdofepaaGreatMD
set_option linter.unusedVariables false
set_option linter.unusedSimpArgs false
namespace Go.Proofs.YtbnkdnlfdofepaaGreat
namespace Am
open Go.RowKit
set_option maxRecDepth 100000
def dU:BF:=⟨36,[0,1,4,5,6,8,20,23,24,25,26],(.seq (.reg [mvS 2 (.mv (.const (.int .u64 0))),mvS 3 (.mv (.const (.bool false)))]) (.seq (.seq (.reg [ceS 9 1,mvE 10 (.bin .lss .no (eV 9) (.const (.int .i64 0))),ceE 11 10, .mk (some ((eV 11),false)) (.env 12) (.mov (.mv (sL 1))), .mk (some ((eV 11),false)) (.env 13) (.mov (.bin .gtr .no (eV 12) (.const (.int .i64 8)))),mvE 14 (.pick (eV 11) (.const (.bool true)) (eV 13)),ceE 15 14, .mk (some ((eV 15),false)) (.env 16) (.mov (.mv (sL 1))), .mk (some ((eV 15),false)) (.env 17) (.mov (.mv (sL 0))), .mk (some ((eV 15),false)) (.env 18) (.mov (.ah (eV 17))), .mk (some ((eV 15),false)) (.env 19) (.mov (.bin .gtr .no (eV 16) (eV 18))),mvS 6 (.pick (eV 15) (.const (.bool true)) (eV 19))]) (.cond (sL 6) (.seq (.reg [mvS 2 (.mv (.const (.int .u64 0))),mvS 3 (.mv (.const (.bool false)))]) .ret) .skip)) (.seq (.reg [mvS 4 (.mv (.const (.int .u64 0)))]) (.seq (.seq (.reg [ceS 21 0,ceS 22 1,mvS 7 (.sl 1 (eV 21) none (some (eV 22)) none),mvS 8 (.ah (sL 7)),mvS 9 (.mv (.const (.int .i64 0)))]) (.block 0 (.loop (.seq (.reg [mvS 10 (.bin .lss .no (sL 9) (sL 8))]) (.seq (.cond (sL 10) .skip (.exit 0)) (.seq (.block 1 (.seq (.reg [mvE 27 (.aP 1 (sL 7) (sL 9)),ldE 28 27,csE 5 28]) (.reg [ceS 29 4,mvE 30 (.bin .shl .no (eV 29) (.const (.int .u64 8))),ceS 31 5,mvE 32 (.conv .u64 (eV 31)),mvE 33 (.bin .or .no (eV 30) (eV 32)),csE 4 33]))) (.reg [mvE 34 (.bin .add .no (sL 9) (.const (.int .i64 1))),csE 9 34]))))))) (.seq (.reg [ceS 35 4,csE 2 35,mvS 3 (.mv (.const (.bool true)))]) .ret))))),[.slot (sL 2), .slot (sL 3)]⟩
section
variable {X:Type} {E:Nat->Option (Ent X)}
def Bnd (o:Option Od) (e:En) (t:List AV) (n:Nat) (d:Nat):Prop:=(o=none/\n=d)\/∃x k,o=some x/\x.ev e t= .int k (n:Int)
theorem jQ {k:IntKind} {n:Nat}:nOf (.int k (n:Int))=some n:=rfl
theorem RS.sl {h:Hp X} {z n:Nat} {v:AV} {cells:List AV} (a:RS h z v n cells) {lo hi:Nat} (h1:lo<=hi) (h2:hi<=n):∃v',RS h z v' (hi - lo) ((cells.drop (lo*z)).take ((hi - lo)*z))/\(∀g,blk v' g->blk v g)/\(v≠ .bV->v'≠ .bV)/\
  ∀{hh:Hp X} {e:En} {t:List AV} {x:Od} {ol oh:Option Od},x.ev e t=v->Bnd ol e t lo 0->Bnd oh e t hi n->(Mv.sl z x ol oh none).ev e t hh=some v':=by
 cases v<;>first|exact a.elim|skip
 ·rename_i z' g o n' cap
  obtain ⟨rfl,rfl,hg,l,hl,hle,rfl⟩:=a
  refine ⟨.slice z' g (o+lo*z') (hi - lo) (match cap with|none=>none|some k=>some (k - lo)),⟨rfl,rfl,hg,l,hl, ?_, ?_⟩,fun g hg=>hg,(fun _ e=>by cases e),fun {hh e t x ol oh} hx hol hoh=> ?_⟩
  ·have e1:lo*z'+(hi - lo)*z'=hi*z':=by rw [<-Nat.add_mul];congr 1;omega
   have:=Nat.mul_le_mul_right z' h2
   omega
  ·have e1:lo*z'+(hi - lo)*z'=hi*z':=by rw [<-Nat.add_mul];congr 1;omega
   have:=Nat.mul_le_mul_right z' h2
   rw [List.drop_take,List.take_take,List.drop_drop]
   congr 1
   omega
  ·have hc:Ak hh z' g o n' cap hi=true:=by unfold Ak;rw [dK h2];rfl
   have hl2:=dK h1
   simp only [Mv.ev,hx,slB,Nat.beq_refl,Bool.not_true,cond_false]
   rcases hol with ⟨rfl,rfl⟩|⟨y,k,rfl,hy⟩<;>rcases hoh with ⟨rfl,rfl⟩|⟨y2,k2,rfl,hy2⟩
   ·simp only [oev];cases cap<;>rfl
   ·simp only [oev,hy2,jQ,hc,cond_true];cases cap<;>rfl
   ·simp only [oev,hy,jQ,hl2,cond_true];cases cap<;>rfl
   ·simp only [oev,hy,hy2,jQ,hc,hl2,cond_true];cases cap<;>rfl
 ·obtain ⟨rfl,rfl⟩:=a
  have e1:hi=0:=by omega
  subst e1
  have e2:lo=0:=by omega
  subst e2
  refine ⟨.ae,⟨rfl,by simp⟩,fun g hg=>hg,(fun _ e=>by cases e),fun {hh e t x ol oh} hx hol hoh=> ?_⟩
  simp only [Mv.ev,hx,slB]
  rcases hol with ⟨rfl,_⟩|⟨y,k,rfl,hy⟩<;>rcases hoh with ⟨rfl,_⟩|⟨y2,k2,rfl,hy2⟩<;>simp only [oev, *]<;>rfl
 ·obtain ⟨rfl,rfl⟩:=a
  have e1:hi=0:=by omega
  subst e1
  have e2:lo=0:=by omega
  subst e2
  refine ⟨.bV,⟨rfl,by simp⟩,fun g hg=>hg,fun h=>absurd rfl h,fun {hh e t x ol oh} hx hol hoh=> ?_⟩
  simp only [Mv.ev,hx,slB]
  rcases hol with ⟨rfl,_⟩|⟨y,k,rfl,hy⟩<;>rcases hoh with ⟨rfl,_⟩|⟨y2,k2,rfl,hy2⟩<;>simp only [oev, *]<;>rfl
def ub (b:UInt8):AV:= .int .u8 b.toNat
def be (l:List UInt8):Nat:=l.foldl (fun n b=>n*256+b.toNat) 0
theorem V5 (l:List UInt8) (b:UInt8):be (l++[b])=be l*256+b.toNat:=by simp [be]
theorem QW:∀(l:List UInt8) (a:Nat),l.foldl (fun n b=>n*256+b.toNat) a < (a+1)*256^l.length
 |[],a=>by simp
 |b::l,a=>by
  have h:=QW l (a*256+b.toNat)
  have hb:=b.toNat_lt
  have e:(a*256+b.toNat+1)*256^l.length<=((a+1)*256)*256^l.length:=Nat.mul_le_mul_right _ (by omega)
  rw [List.length_cons,Nat.pow_succ,Nat.mul_comm (256^l.length) 256,<-Nat.mul_assoc]
  exact Nat.lt_of_lt_of_le h e
theorem GU (l:List UInt8):be l < 256^l.length:=by simpa [be] using QW l 0
section
variable {e:En} {t:List AV} {h:Hp X}
theorem Zj {q:Eq} {x y:Od} {k:IntKind} {m:Nat} (hx:x.ev e t= .int .u64 (m:Int)) (hy:y.ev e t= .int k 8) (hm:m < 72057594037927936):(Mv.bin .shl q x y).ev e t h=some (.int .u64 ((m*256:Nat):Int)):=by
 have e1:wr .u64 ((m:Int)*2^(min (8:Int).toNat IntKind.u64.bits))=((m*256:Nat):Int):=by
  have e2:(m:Int)*2^(min (8:Int).toNat IntKind.u64.bits)=((m*256:Nat):Int):=by
   show (m:Int)*2^8=_
   omega
  rw [e2]
  have e3:((m*256:Nat):Int) % 2^64=((m*256:Nat):Int):=by omega
  simp only [wr,IntKind.wrap,IntKind.signed,IntKind.bits,e3]
  simp
 simp only [Mv.ev,hx,hy,Am.bin,AV.onInt,isShift,Bool.true_or,cond_true,intOp]
 rw [if_neg (by decide),e1]
theorem aaM {q:Eq} {x y:Od} {m c:Nat} (hx:x.ev e t= .int .u64 ((m*256:Nat):Int)) (hy:y.ev e t= .int .u64 (c:Int)) (hc:c < 256) (hm:m < 72057594037927936):(Mv.bin .or q x y).ev e t h=some (.int .u64 ((m*256+c:Nat):Int)):=by
 have e0:∀n:Nat,n < 18446744073709551616->(BitVec.ofInt 64 (n:Int)).toNat=n:=fun n hn=>by
  rw [BitVec.toNat_ofInt]
  omega
 have e1:(BitVec.ofInt IntKind.u64.bits ((m*256:Nat):Int)|||BitVec.ofInt IntKind.u64.bits (c:Int)).toNat=m*256+c:=by
  show (BitVec.ofInt 64 ((m*256:Nat):Int)|||BitVec.ofInt 64 (c:Int)).toNat=m*256+c
  rw [BitVec.toNat_or,e0 _ (by omega),e0 _ (by omega),Nat.mul_comm m 256]
  exact (Nat.two_pow_add_eq_or_of_lt (i:=8) hc m).symm
 have e3:((m*256+c:Nat):Int) % 2^64=((m*256+c:Nat):Int):=by omega
 have e4:wr .u64 ((m*256+c:Nat):Int)=((m*256+c:Nat):Int):=by
  simp only [wr,IntKind.wrap,IntKind.signed,IntKind.bits,e3]
  simp
 simp only [Mv.ev,hx,hy,Am.bin,AV.onInt,isShift,Bool.false_or,decide_true,cond_true,intOp,e1,e4]
end
theorem QX {l:List UInt8} {i:Int} (h0:0<=i) (hi:i < l.length):l.take (i+1).toNat=l.take i.toNat++[l.getD i.toNat 0]:=by
 obtain ⟨j,rfl⟩:=Int.eq_ofNat_of_zero_le h0
 have hj:j < l.length:=by omega
 have e:((j:Int)+1).toNat=j+1:=by omega
 rw [e,Int.toNat_natCast,List.take_succ_eq_append_getElem hj,List.getD_eq_getElem?_getD,List.getElem?_eq_getElem hj]
 rfl
theorem QY {l:List UInt8} {i:Int} (h0:0<=i) (hi:i < l.length):(l.map ub)[i.toNat]?=some (.int .u8 ((l.getD i.toNat 0).toNat:Int)):=by
 obtain ⟨j,rfl⟩:=Int.eq_ofNat_of_zero_le h0
 have hj:j < l.length:=by omega
 rw [Int.toNat_natCast,List.getElem?_map,List.getD_eq_getElem?_getD,List.getElem?_eq_getElem hj]
 rfl
theorem rq (hE:∀f e,E f=some e->e.plain) (hf:E 115=some (.bc dU)) {h:Hp X} {v:AV} {bs:List UInt8} (hr:RS h 1 v bs.length (bs.map ub)) {n:Nat} (h8:n<=8) (hn:n<=bs.length):
  WF (lim E) 115 [v, .int .i64 n] h fun r h'=>h'=h/\r= .tup [.int .u64 (be (bs.take n)), .bool true]:=by
 obtain ⟨v',hr',_,_,hsl⟩:=hr.sl (lo:=0) (hi:=n) (Nat.zero_le _) hn
 simp only [Nat.sub_zero,Nat.zero_mul,List.drop_zero,Nat.mul_one,<-List.map_take] at hr'
 have hlen:(bs.take n).length=n:=by rw [List.length_take];omega
 generalize hbt:bs.take n=bt at hr' hlen
 refine aC hE hf rfl ?_
 simp only [dU,mvE,mvS,clE,efE,ceS,ceE,csE,faE,nlE,ldE,lnE,exE,eV,sL,kI,List.map,getS]
 repeat first|refine ZA ?_|refine BV (hr.ah (by rfl)) ?_|refine BV (hr'.ah (by rfl)) ?_|refine BV (hsl (by rfl) (.inl ⟨rfl,rfl⟩) (.inr ⟨_,_,rfl,rfl⟩)) ?_|refine BP ?_|refine BQ ?_
 refine aQ (fun q t h'=>h'=h/\∃(i:Int) (s5 s10:AV),0<=i/\i<=n/\(q:Int)=n - i/\t=[v, .int .i64 n, .int .u64 0, .bool false, .int .u64 (be (bt.take i.toNat)),s5, .bool false,v', .int .i64 n, .int .i64 i,s10]) ?_ n _ _ ⟨rfl,0,_,_,by omega,by omega,by omega,rfl⟩
 rintro q t h' ⟨rfl,i,s5,s10,h0,hi,hq,rfl⟩
 by_cases hlt:i < n
 ·obtain ⟨g,o,ha,hl⟩:=hr'.at1 h0 hlt
  rw [QY h0 (by omega)] at hl
  have hlt2:i < bt.length:=by omega
  have hb:=GU (bt.take i.toNat)
  have hb2:be (bt.take i.toNat) < 72057594037927936:=by
   have h1:(bt.take i.toNat).length<=7:=by rw [List.length_take];omega
   exact Nat.lt_of_lt_of_le hb (Nat.le_trans (Nat.pow_le_pow_right (by omega) h1) (by decide))
  have hc:=(bt.getD i.toNat 0).toNat_lt
  repeat first|refine ZA ?_|refine BV (ha rfl rfl) ?_|refine BV (hl rfl) ?_|refine BV (Zj rfl rfl hb2) ?_|refine BV (cO rfl (by omega)) ?_|refine BV (aaM rfl rfl hc hb2) ?_|refine BP ?_|refine BQ ?_
  refine aj (q - 1) (by omega) ⟨rfl,i+1, .int .u8 ((bt.getD i.toNat 0).toNat:Int), .bool true,by omega,by omega,by omega, ?_⟩
  rw [QX h0 hlt2,V5]
 ·repeat first|refine ZA ?_|refine BP ?_|refine BQ ?_
  refine ⟨rfl, ?_⟩
  have e:i.toNat=n:=by omega
  rw [e,<-hlen,List.take_length]
  rfl
theorem Zi (hE:∀f e,E f=some e->e.plain) (hf:E 115=some (.bc dU)) {h:Hp X} {v:AV} {bs:List UInt8} (hr:RS h 1 v bs.length (bs.map ub)) {n:Int} (hn:n < 0\/8 < n\/(bs.length:Int) < n):
  WF (lim E) 115 [v, .int .i64 n] h fun r h'=>h'=h/\r= .tup [.int .u64 0, .bool false]:=by
 refine aC hE hf rfl ?_
 simp only [dU,mvE,mvS,clE,efE,ceS,ceE,csE,faE,nlE,ldE,lnE,exE,eV,sL,kI,List.map,getS]
 by_cases h1:n < 0
 ·repeat first|refine ZA ?_|refine BP ?_|refine BQ ?_
  exact ⟨rfl,rfl⟩
 ·by_cases h2:8 < n
  ·repeat first|refine ZA ?_|refine BP ?_|refine BQ ?_
   exact ⟨rfl,rfl⟩
  ·have h3:(bs.length:Int) < n:=by omega
   repeat first|refine ZA ?_|refine BV (hr.ah (by rfl)) ?_|refine BP ?_|refine BQ ?_
   exact ⟨rfl,rfl⟩
end
end Am
end Go.Proofs.YtbnkdnlfdofepaaGreat
namespace Go.Proofs.YtbnkdnlfdofepaaGreat
open Go.ChangeShapes Go.WideShapes Go.ChangeAt Go.RowKit
section
variable {H:Type} {enc:TypeId×Value->H} {P:Program}
theorem um (hl:laidOutB P=true) {W W':World} (hb:Below W.heap.size W W') (sp:Nat->Bool):∀{ts:List TypeId} {vs:List Value} {ds:List (DataW H)} {ps:List MemPlace},
  (∀t∈ts,P.readableRec t=true/\t < P.types.size)->DataW.TrodAll enc P W 0 (fun _=>true) true ts vs ds ps->(∀p∈ps,p.block < W.heap.size)->(∀p∈ps,sp p.block=true)->DataW.TrodAll enc P W' 0 sp true ts vs ds ps
 |[],vs,ds,ps,_,h,_,_=>by
  obtain ⟨rfl,rfl,rfl⟩:=trodAll_nil h
  exact trodAll_mk0
 |t::ts,vs,ds,ps,hr,h,hlt,hsp=>by
  obtain ⟨v,vs',d,ds',p,q,rfl,rfl,rfl,h1,h2⟩:=trodAll_cons h
  refine trodAll_cons_mk (WideElems.Trod_stays hl (hr t (List.mem_cons_self ..)).1 (hr t (List.mem_cons_self ..)).2 h1 (fun x hx=>hb.same (hlt x (List.mem_append_left _ hx))) (fun x hx=>hsp x (List.mem_append_left _ hx))) ?_
  exact um hl hb sp (fun t ht=>hr t (List.mem_cons_of_mem _ ht)) h2 (fun x hx=>hlt x (List.mem_append_right _ hx)) (fun x hx=>hsp x (List.mem_append_right _ hx))
theorem QZ {f:Func} {s:ChangeSpec} {apart fresh handsOn again:Bool} {W W':World} {args:Array Value} {ds gs:List (DataW H)} {before:List MemPlace} {tb:TypeId}
  (hl:laidOutB P=true) (hr:∀t∈f.params.toList,P.readableRec t=true/\t < P.types.size) (hv:s.vars=[]) (hf:f.resultTypes= #[tb]) (ht:P.underlying tb=some .bool)
  (hs:s.fn H (ds++gs)={results:=[.lit (.bool true)],args:=ds})
  (hW:DataW.Whole enc P f.params.toList s.vars apart W args.toList ds gs before) (hb:Below W.heap.size W W'):s.post enc P f apart fresh handsOn again W args (.bool true) W':=by
 have hold:∀p∈before,(fun b=>decide (b < W.heap.size)) p.block=true:=fun p hp=>by simpa using hW.lt p hp
 have hlt:∀p∈before,p.block < W.heap.size:=fun p hp=>by simpa using hW.lt p hp
 have hW0:=hW
 obtain ⟨p,q,hA,hV,hpq,hz,hn⟩:=hW0
 have hv':=hv
 rw [hv] at hV
 obtain ⟨rfl,rfl⟩:=trodVars_none hV
 rw [List.append_nil] at hpq
 subst hpq
 have hres:∀(b:Nat) (sp:Nat->Bool) (hd:Bool),DataW.TrodAll enc P W' b sp hd f.resultTypes.toList ((Value.bool true).resultList f.resultTypes.size) (s.fn H (ds++[])).results []:=fun b sp hd=>by
  rw [hs,hf];exact trodAll_mk1 (shut_bool ht true)
 have hargs:∀sp:Nat->Bool,(∀p∈before,sp p.block=true)->DataW.TrodAll enc P W' 0 sp true f.params.toList args.toList (s.fn H (ds++[])).args before:=fun sp hsp=>by
  rw [hs];exact um hl hb sp hr hA hlt hsp
 have hvars:∀sp:Nat->Bool,DataW.TrodVars enc P W' sp s.vars (s.fn H (ds++[])).vars []:=fun sp=>by
  rw [hs,hv];exact rfl
 refine ⟨ds,[],before,[],before,[],hW,hres _ _ _,hargs _ hold,hvars _,hb.frame _,fun _=> ?_⟩
 refine ⟨ok_one hf rfl (okWide_bool_mk ht _),_,_,([]++before)++[],⟨[]++before,[],trodAll_append (hargs _ (fun _ _=>rfl)) (hres _ _ _),hvars _,rfl, ?_, ?_⟩, ?_⟩
 ·intro b off hp
  have hp':MemPlace.cell b off∈before:=by simpa using hp
  rw [hb.frozen (p:=⟨b,off,none⟩) (hlt _ hp')]
  exact hz b off hp'
 ·intro ha
  simpa using hn ha
 ·intro p hp _
  simpa using hp
end
theorem NV {H:Type} {enc:TypeId×Value->H} {P:Program} {W:World} {t e:TypeId} {k:IntKind} (ht:P.underlying t=some (.slice e)) (he:P.underlying e=some (.int k)) (hc:P.cellsOf e=1) {v:Value} {d:DataW H} {ps:List MemPlace}
  (hok:∃a len cap,v= .slice a len cap) (h:DataW.Trod enc P W 0 (fun _=>true) true t v d ps):
  ∃(a:Option Addr) (n c:Nat) (zs:List Int),v= .slice a n c/\zs.length=n/\Rd W 1 (.slice a n c) n (zs.map (Value.int k))/\(∀z∈zs,(Lit.int k z).wf=true)/\(∀ad,a=some ad->0 < c->ad.block < W.heap.size/\ad.spot=none):=by
 obtain ⟨a0,len,cap,rfl⟩:=hok
 obtain ⟨fuel,hf⟩:=h
 rcases open_ints ht he hc hf with ⟨hcs,_⟩|⟨a,len',cap',zs,hcs,_,hl,hm,hz,_,hcell,hw⟩
 ·simp [Value.cells] at hcs
  obtain ⟨rfl,rfl,rfl⟩:=hcs
  exact ⟨none,0,0,[],rfl,rfl,⟨rfl,by unfold maxLen;omega,none,0,rfl,Nat.le_refl _,by unfold maxLen;omega,(fun _=>⟨rfl,rfl⟩),(fun _ h=>by cases h)⟩,(fun _ h=>by cases h),(fun _ h=>by cases h)⟩
 ·simp [Value.cells] at hcs
  obtain ⟨rfl,rfl,rfl⟩:=hcs
  simp only [if_true] at hz
  have hsp:0 < zs.length->a.spot=none:=fun h0=>by
   have:=hcell 0 h0
   have h1:a.add 0=a:=by simp [Addr.add]
   rw [h1] at this
   exact World.cell?_spot this
  refine ⟨some a,len,cap,zs.take len,rfl,by simp;omega,⟨by simp;omega,by omega,some a,cap,rfl,hl,hm,(fun h=>by cases h),fun ad had=> ?_⟩,fun z hz'=>hw z (List.mem_of_mem_take hz'),fun ad had h0=> ?_⟩
  ·cases had
   refine ⟨fun h0=>hsp (by omega),fun j u hu=> ?_⟩
   rw [List.getElem?_map] at hu
   obtain ⟨z,hz',rfl⟩:=Option.map_eq_some_iff.1 hu
   rw [List.getElem?_take] at hz'
   split at hz'
   ·have hj:=(List.getElem?_eq_some_iff.1 hz').1
    rw [hcell j hj,List.getD_eq_getElem?_getD,hz'];rfl
   ·cases hz'
  ·cases had
   have:=hcell 0 (by omega)
   have h1:a.add 0=a:=by simp [Addr.add]
   rw [h1] at this
   exact ⟨World.block_lt_of_cell? W a this,World.cell?_spot this⟩
theorem Q4 {zs:List Int} (h:∀z∈zs,(Lit.int .u8 z).wf=true):∃l:Bs,zs.map (Value.int .u8)=l.map bv:=by
 refine ⟨zs.map fun z=>UInt8.ofNat z.toNat, ?_⟩
 rw [List.map_map]
 refine List.map_congr_left fun z hz=> ?_
 have:=h z hz
 simp [Lit.wf,IntKind.min,IntKind.max,IntKind.bits,IntKind.signed] at this
 simp [bv,UInt8.toNat_ofNat']
 omega
theorem xK {H:Type} {enc:TypeId×Value->H} {P:Program} {W:World} {t e:TypeId} (ht:P.underlying t=some (.slice e)) (he:P.underlying e=some (.int .u8)) (hc:P.cellsOf e=1) {v:Value} {d:DataW H} {ps:List MemPlace}
  (hok:∃a len cap,v= .slice a len cap) (h:DataW.Trod enc P W 0 (fun _=>true) true t v d ps):
  ∃(a:Option Addr) (l:Bs) (c:Nat),v= .slice a l.length c/\Rd W 1 (.slice a l.length c) l.length (l.map bv)/\∀ad,a=some ad->0 < c->ad.block < W.heap.size/\ad.spot=none:=by
 obtain ⟨a,n,c,zs,hv,hl,hr,hw,hz⟩:=NV ht he hc hok h
 obtain ⟨l,e⟩:=Q4 hw
 have:l.length=n:=by
  have:=congrArg List.length e
  simpa [hl] using this.symm
 rw [e,<-this] at hr
 exact ⟨a,l,c,by rw [hv,this],hr,hz⟩
end Go.Proofs.YtbnkdnlfdofepaaGreat
namespace Go.Proofs.YtbnkdnlfdofepaaGreat
open Go.ChangeShapes Go.WideShapes Go.ChangeAt Go.RowKit Go.Deep
theorem Ls {α β:Type} {f:β->α} {q:β->Prop}:∀{xs:List α},(∀x∈xs,∃y,x=f y/\q y)->∃ys:List β,xs=ys.map f/\∀y∈ys,q y
 |[],_=>⟨[],rfl,fun _ h=>by cases h⟩
 |x::xs,h=>by
  obtain ⟨y,h1,h2⟩:=h x (List.mem_cons_self ..)
  obtain ⟨ys,h3,h4⟩:=Ls (xs:=xs) fun z hz=>h z (List.mem_cons_of_mem _ hz)
  refine ⟨y::ys,by rw [h1,h3];rfl,fun z hz=> ?_⟩
  rcases List.mem_cons.1 hz with rfl|hz
  ·exact h2
  ·exact h4 z hz
section
variable {H:Type} {enc:TypeId×Value->H} {P:Program} {W:World}
theorem GY {t e:TypeId} {fuel:Nat} {v:Value} {x:DataW H×List MemPlace} (ht:P.underlying t=some (.slice e)) (h:DataW.trod enc P W 0 (fun _=>true) true fuel t [v]=some x):∃a len cap,v= .slice a len cap:=by
 rcases open_slice ht h with ⟨h0,_⟩|⟨a,len,cap,m,n,D,Pl,h0,_⟩
 ·exact ⟨none,0,0,by simpa using h0⟩
 ·exact ⟨some a,len,cap,by simpa using h0⟩
theorem zi {α:Type} {z:Nat} (hz:0 < z):∀{vs:List (List α)},(∀c∈vs,c.length=z)->∀j,vs.flatten[j]?=(vs[j / z]?).bind fun c=>c[j % z]?
 |[],_,j=>by simp
 |c::vs,h,j=>by
  have hc:=h c (List.mem_cons_self ..)
  rw [List.flatten_cons]
  by_cases hj:j < z
  ·rw [List.getElem?_append_left (by omega),Nat.div_eq_of_lt hj,Nat.mod_eq_of_lt hj];rfl
  ·rw [List.getElem?_append_right (by omega),hc,zi hz (fun x hx=>h x (List.mem_cons_of_mem _ hx))]
   have e1:j / z=(j - z) / z+1:=by
    conv=>lhs;rw [show j=(j - z)+z by omega]
    rw [Nat.add_div_right _ hz]
   have e2:j % z=(j - z) % z:=by
    conv=>lhs;rw [show j=(j - z)+z by omega]
    rw [Nat.add_mod_right]
   rw [e1,e2];rfl
theorem Es {t e:TypeId} {fs:Array Field} (ht:P.underlying t=some (.slice e)) (hs:P.underlying e=some (.struct fs)) (hone:oneCellFields P fs=true) (hC:P.cellsOf e=fs.size) (hpos:0 < fs.size) {v:Value} {d:DataW H} {ps:List MemPlace}
  (hok:∃a len cap,v= .slice a len cap) (h:DataW.Trod enc P W 0 (fun _=>true) true t v d ps):
  ∃(a:Option Addr) (vs:List (List Value)) (c:Nat),v= .slice a vs.length c/\Rd W fs.size (.slice a vs.length c) vs.length vs.flatten/\
   ∀cs∈vs,cs.length=fs.size/\∀(i:Nat) (f:Field),fs[i]?=some f->∃(n:Nat) (x:DataW H×List MemPlace),DataW.trod enc P W 0 (fun _=>true) true n f.type [cs.getD i undef]=some x:=by
 obtain ⟨a0,len,cap,rfl⟩:=hok
 obtain ⟨fuel,hf⟩:=h
 rcases open_slice ht hf with ⟨hcs,_⟩|⟨a,len',cap',m,n,D,Pl,hcs,_,hl,hm,hmm,_,hx⟩
 ·simp [Value.cells] at hcs
  obtain ⟨rfl,rfl,rfl⟩:=hcs
  exact ⟨none,[],0,rfl,⟨by simp,by unfold maxLen;simp,none,0,rfl,Nat.le_refl _,by unfold maxLen;simp,(fun _=>⟨rfl,rfl⟩),(fun _ h=>by cases h)⟩,fun _ h=>by cases h⟩
 ·simp [Value.cells] at hcs
  obtain ⟨rfl,rfl,rfl⟩:=hcs
  have hlm:len<=m:=by rw [hmm];split<;>omega
  rw [hC] at hx
  obtain ⟨V,hV⟩:=choose_lt (α:=List Value) (p:=fun i cs=>W.cells? 0 (a.add (i*fs.size)) fs.size=some cs/\DataW.trod enc P W 0 (fun _=>true) true n e cs=some (D i,Pl i)) (n:=m) (fun i hi=>hx i hi)
  have hlen:∀cs∈(List.range len).map V,cs.length=fs.size:=by
   intro cs hcs
   obtain ⟨i,hi,rfl⟩:=List.mem_map.1 hcs
   exact (World.cells?_some (hV i (by have:=List.mem_range.1 hi;omega)).1).2.1
  have hsp:0 < len->a.spot=none:=fun h0=>by
   obtain ⟨_,hl0,hc0⟩:=World.cells?_some (hV 0 (by omega)).1
   have:=hc0 0 hpos
   rw [List.getElem?_eq_getElem (by omega)] at this
   have e0:(a.add (0*fs.size)).add 0=a:=by simp [Addr.add]
   rw [e0] at this
   exact World.cell?_spot this
  refine ⟨some a,(List.range len).map V,cap,by simp,⟨?_,by simp;omega,some a,cap,rfl,by simpa using hl,hm,(fun h=>by cases h),fun ad had=> ?_⟩,fun cs hcs=>⟨hlen cs hcs,fun i f hif=> ?_⟩⟩
  ·rw [List.length_flatten]
   have:∀l:List (List Value),(∀c∈l,c.length=fs.size)->(l.map List.length).sum=l.length*fs.size:=by
    intro l
    induction l with
    |nil=>intro _;simp
    |cons c l ih=>
     intro hh
     rw [List.map_cons,List.sum_cons,ih (fun x hx=>hh x (List.mem_cons_of_mem _ hx)),hh c (List.mem_cons_self ..),List.length_cons,Nat.succ_mul]
     omega
   exact this _ hlen
  ·cases had
   refine ⟨fun h0=>hsp (by simpa using h0),fun j u hu=> ?_⟩
   rw [zi hpos hlen] at hu
   obtain ⟨cs,h1,h2⟩:=Option.bind_eq_some_iff.1 hu
   rw [List.getElem?_map] at h1
   obtain ⟨i,hi,rfl⟩:=Option.map_eq_some_iff.1 h1
   obtain ⟨hj,rfl⟩:=List.getElem?_eq_some_iff.1 hi
   simp at hj h2
   obtain ⟨_,hl0,hc0⟩:=World.cells?_some (hV (j / fs.size) (by omega)).1
   have hmod:j % fs.size < fs.size:=Nat.mod_lt _ hpos
   have:=hc0 (j % fs.size) hmod
   rw [h2,add_add] at this
   rw [<-this]
   congr 2
   rw [Nat.mul_comm]
   exact (Nat.div_add_mod j fs.size).symm
  ·obtain ⟨k,hk,rfl⟩:=List.mem_map.1 hcs
   have hk:=List.mem_range.1 hk
   obtain ⟨h1,h2⟩:=hV k (by omega)
   obtain ⟨xs,n',_,_,_,hxl,hfd⟩:=DataW.trod_struct hs h2
   have hlt:i < fs.size:=(Array.getElem?_eq_some_iff.1 hif).1
   obtain ⟨ho,hc1⟩:=hone_of hone i f hif
   have g:=hfd i f hif
   rw [ho,hc1] at g
   have hll:(V k).length=fs.size:=hlen _ hcs
   rw [take1_drop (V k) i undef (by omega),List.getElem?_eq_getElem (by omega)] at g
   exact ⟨n',_,g⟩
end
end Go.Proofs.YtbnkdnlfdofepaaGreat
namespace Go.Proofs.YtbnkdnlfdofepaaGreat
namespace Am
open Go.RowKit
set_option maxRecDepth 10000
variable {P:Program}
theorem V6 {O:dH} {E:Nat->Option (Ent O.X)} (hF:∀f e,E f=some e->∀N,jD P O f (vK N e)) {f:Nat} {xs:List AV} {args:List Value} {W:World} {m:Mu} {φ:Ph} {h:Hp O.X} (hs:SR O W W m φ h) (hv:VRs m xs args)
  (H:WF (lim E) f xs h fun r _=>r= .bool true):Calls P f args.toArray W fun e W'=>e= .returned (.bool true)/\Below W.heap.size W W':=by
 obtain ⟨v,h',e,rfl⟩:=H.out
 have hc:=(Jq hF f xs h (by rw [e];intro q;cases q)).2 hs hv
 rw [e] at hc
 refine hc.mono fun en w' hq=> ?_
 obtain ⟨m',φ',v',k1,k2,k3,k4,rfl⟩:=hq
 simp only [VR] at k4
 subst k4
 exact ⟨rfl,k3.below⟩
structure Ini (O:dH) (W:World) (m:Mu) (h:Hp O.X):Prop where
 sr:∃φ,SR O W W m φ h
theorem abV (O:dH) (W:World):Ini O W (fun _=>none) h0:=⟨⟨_,aaB O W⟩⟩
section
variable {O:dH} {W:World} {m:Mu} {h:Hp O.X}
theorem Ini.ro (H:Ini O W m h) {p:Pl} {l:List AV} (hb:p.b < W.heap.size) (hl:p.s+l.length<=p.e) (hr:Dz m l (fun i=>W.cell? ⟨p.b,p.s+i,none⟩)):Ini O W (m.set h.n p) (h.push (.ro l))/\Ext m (m.set h.n p):=by
 obtain ⟨φ,H⟩:=H.sr
 have hx:=Mu.iK H.lK p
 exact ⟨⟨⟨φ.set h.n (fun _=>False),H.new (Below.refl _ _) ⟨hb,hl,hr.ext hx⟩ (fun q=>by cases q)⟩⟩,hx⟩
theorem V7 {m:Mu} {l:List AV} {vs:List Value} {f:Nat->Option Value} (hv:VRs m l vs) (ho:∀x∈l,x.one=true) (hf:∀j u,vs[j]?=some u->f j=some u):Dz m l f:=fun i v hi=>by
 obtain ⟨u,h1,h2⟩:=hv.get hi
 exact ⟨u,hf i u h1,h2,ho v (List.mem_of_getElem? hi)⟩
theorem Ini.slice (H:Ini O W m h) {z:Nat} {a:Option Addr} {n c:Nat} {vs:List Value} {l:List AV} (hz:0 < z) (hr:Rd W z (.slice a n c) n vs) (hv:VRs m l vs) (ho:∀x∈l,x.one=true):
  ∃m' h' x,Ini O W m' h'/\Ext m m'/\Keep NoB h h'/\VR m' x (.slice a n c)/\RS h' z x n l/\(∀g,blk x g->h.n<=g):=by
 have hr':=hr
 obtain ⟨h1,h2,a',c',e,h3,h4,h5,h6⟩:=hr
 simp only [Value.slice.injEq] at e
 obtain ⟨rfl,_,rfl⟩:=e
 have hlen:l.length=n*z:=by rw [<-h1];exact hv.len.symm
 by_cases hn:n=0
 ·subst hn
  refine ⟨m,h, .bV,H,Ext.refl _,Keep.refl _ _, ?_,⟨rfl,List.eq_nil_of_length_eq_zero (by simpa using hlen)⟩,fun g q=>q.elim⟩
  simp only [VR]
  exact ⟨a,c,rfl,h4,fun e=>(h5 e).2⟩
 ·cases a with
  |none=>exact absurd (h5 rfl).1 hn
  |some ad=>
   obtain ⟨hsp,hc⟩:=h6 ad rfl
   have hs:=hsp (Nat.pos_of_ne_zero hn)
   obtain ⟨b,o,sp⟩:=ad
   simp only at hs
   subst hs
   have hnz:0 < n*z:=Nat.mul_pos (Nat.pos_of_ne_zero hn) hz
   have hb:b < W.heap.size:=by
    have hj:vs[0]?=some (vs[0]'(by omega)):=List.getElem?_eq_getElem (by omega)
    have:=hc 0 _ hj
    exact World.block_lt_of_cell? W _ this
   have hcz:n*z<=c*z:=Nat.mul_le_mul_right _ h3
   obtain ⟨k1,k2⟩:=H.ro (p:=⟨b,o,o+c*z,z⟩) (l:=l) hb (by simp only;omega) (V7 hv ho fun j u hu=>hr'.cell rfl hu)
   refine ⟨_,_, .slice z h.n 0 n (some c),k1,k2,Keep.push _ _ _, ?_,⟨rfl,rfl,Nat.lt_succ_self _,l, ?_,by omega, ?_⟩,fun g q=>by cases q;exact Nat.le_refl _⟩
   ·simp only [VR]
    exact ⟨_,⟨b,o,none⟩,c,Mu.set_self _ _ _,rfl,h3,h4,fun _=>rfl,⟨hz,rfl⟩,rfl⟩
   ·unfold rowOf;rw [Hp.aK]
   ·rw [List.drop_zero,<-hlen,List.take_length]
theorem Ini.Zk (H:Ini O W m h) (hW:0 < W.heap.size) {z:Nat} {a:Option Addr} {n c:Nat} {vs:List Value} {l:List AV} (hz:0 < z) (hr:Rd W z (.slice a n c) n vs) (hp:∀ad,a=some ad->0 < c->ad.block < W.heap.size/\ad.spot=none) (hv:VRs m l vs) (ho:∀x∈l,x.one=true):
  ∃m' h' x,Ini O W m' h'/\Ext m m'/\Keep NoB h h'/\VR m' x (.slice a n c)/\RS h' z x n l/\(∀g,blk x g->h.n<=g)/\x≠ .bV:=by
 by_cases hn:n=0
 ·subst hn
  have hr':=hr
  obtain ⟨h1,h2,a',c',e,h3,h4,h5,h6⟩:=hr
  simp only [Value.slice.injEq] at e
  obtain ⟨rfl,_,rfl⟩:=e
  have hl0:l=[]:=List.eq_nil_of_length_eq_zero (by have:=hv.len;rw [h1] at this;simpa using this.symm)
  subst hl0
  cases a with
  |none=>
   obtain ⟨_,rfl⟩:=h5 rfl
   exact ⟨m,h, .ae,H,Ext.refl _,Keep.refl _ _,by simp only [VR],⟨rfl,rfl⟩,fun g q=>q.elim,fun q=>by cases q⟩
  |some ad=>
   by_cases hc:c=0
   ·subst hc
    obtain ⟨k1,k2⟩:=H.ro (p:=⟨0,0,0,z⟩) (l:=[]) hW (Nat.le_refl _) (fun i v hi=>by simp at hi)
    refine ⟨_,_, .slice z h.n 0 0 (some 0),k1,k2,Keep.push _ _ _, ?_,⟨rfl,rfl,Nat.lt_succ_self _,[],by unfold rowOf;rw [Hp.aK],by simp,by simp⟩,fun g q=>by cases q;exact Nat.le_refl _,fun q=>by cases q⟩
    simp only [VR]
    exact ⟨_,ad,0,Mu.set_self _ _ _,rfl,Nat.le_refl _,by unfold maxLen;omega,fun q=>absurd rfl q,⟨hz,rfl⟩,rfl⟩
   ·obtain ⟨p1,p2⟩:=hp ad rfl (by omega)
    obtain ⟨b,o,sp⟩:=ad
    simp only at p1 p2
    subst p2
    obtain ⟨k1,k2⟩:=H.ro (p:=⟨b,o,o,z⟩) (l:=[]) p1 (Nat.le_refl _) (fun i v hi=>by simp at hi)
    refine ⟨_,_, .slice z h.n 0 0 (some c),k1,k2,Keep.push _ _ _, ?_,⟨rfl,rfl,Nat.lt_succ_self _,[],by unfold rowOf;rw [Hp.aK],by simp,by simp⟩,fun g q=>by cases q;exact Nat.le_refl _,fun q=>by cases q⟩
    simp only [VR]
    exact ⟨_,⟨b,o,none⟩,c,Mu.set_self _ _ _,rfl,Nat.zero_le _,h4,fun _=>rfl,⟨hz,rfl⟩,rfl⟩
 ·obtain ⟨m',h',x,q1,q2,q3,q4,q5,q6⟩:=H.slice hz hr hv ho
  refine ⟨m',h',x,q1,q2,q3,q4,q5,q6,fun e=> ?_⟩
  subst e
  exact hn q5.1
theorem Et {α:Type} {m:Mu} {f:α->AV} {g:α->Value}:∀{l:List α},(∀x∈l,VR m (f x) (g x))->VRs m (l.map f) (l.map g)
 |[],_=>by simp [VRs]
 |x::l,hx=>by
  simp only [List.map_cons,VRs]
  exact ⟨_,_,rfl,hx x (List.mem_cons_self ..),Et fun y hy=>hx y (List.mem_cons_of_mem _ hy)⟩
theorem Ini.bytes (H:Ini O W m h) {a:Option Addr} {c:Nat} {l:Bs} (hr:Rd W 1 (.slice a l.length c) l.length (l.map bv)):
  ∃m' h' x,Ini O W m' h'/\Ext m m'/\Keep NoB h h'/\VR m' x (.slice a l.length c)/\RS h' 1 x l.length (l.map ub)/\(∀g,blk x g->h.n<=g):=
 H.slice Nat.zero_lt_one hr (Et fun x _=>by simp [ub,bv,VR]) (fun x hx=>by obtain ⟨_,_,rfl⟩:=List.mem_map.1 hx;rfl)
theorem Ini.Zl (H:Ini O W m h) (hW:0 < W.heap.size) {a:Option Addr} {c:Nat} {l:Bs} (hr:Rd W 1 (.slice a l.length c) l.length (l.map bv)) (hp:∀ad,a=some ad->0 < c->ad.block < W.heap.size/\ad.spot=none):
  ∃m' h' x,Ini O W m' h'/\Ext m m'/\Keep NoB h h'/\VR m' x (.slice a l.length c)/\RS h' 1 x l.length (l.map ub)/\(∀g,blk x g->h.n<=g)/\x≠ .bV:=
 H.Zk hW Nat.zero_lt_one hr hp (Et fun x _=>by simp [ub,bv,VR]) (fun x hx=>by obtain ⟨_,_,rfl⟩:=List.mem_map.1 hx;rfl)
end
set_option maxRecDepth 512
end Am
end Go.Proofs.YtbnkdnlfdofepaaGreat
namespace Go.Proofs.YtbnkdnlfdofepaaGreat
namespace MD
structure Calm (L:Int) (m:MD):Prop where
 ok:Ok m
 limit:m.limit=L
 armed:m.armed=0
 up:m.down=false
def size (m:MD) (s:Bs):Nat:=match m.get s with|none=>0|some f=>f.b.length
theorem Calm.count {L:Int} {m:MD} (h:Calm L m):m.count=m:=by unfold MD.count;rw [h.armed];rfl
theorem Calm.new {L:Int} (h0:0<=L) (h1:L<=16777216):Calm L (MD.new L):=⟨Ok.new h0 h1,rfl,rfl,rfl⟩
theorem NW {m:MD} (h:Ok m) (s:Bs):eY (bC MF.name m.fs s)+m.size s=m.used:=by
 unfold size MD.get
 cases hg:aO MF.name m.fs s with
 |none=>rw [Bo (get_none.1 hg)];rfl
 |some f=>rw [iO,fM h.rising hg]
theorem ql (l:List MF) (f:MF):(dC MF.name l f).length<=l.length+1:=by
 unfold dC
 have h1:∀l:List MF,(l.filter fun x=>bl x.name f.name).length+(l.filter fun x=>bl f.name x.name).length<=l.length:=by
  intro l
  induction l with
  |nil=>exact Nat.le_refl _
  |cons x l ih=>
   simp only [List.filter_cons,List.length_cons]
   cases h:bl x.name f.name with
   |true=>simp [iH h];omega
   |false=>
    cases h2:bl f.name x.name with
    |true=>simp;omega
    |false=>simp;omega
 have:=h1 l
 simp
 omega
theorem length_drop (l:List MF) (s:Bs):(bC MF.name l s).length<=l.length:=List.length_filter_le ..
theorem length_set (l:List MF) (s:Bs) (g:MF->MF):(dE MF.name l s g).length=l.length:=by simp [dE]
theorem Calm.create {L:Int} {m:MD} (h:Calm L m) {s:Bs} (hs:right s=true):
  ∃m',m.create s=(0,m')/\Calm L m'/\m'.used+m.size s=m.used/\m'.get s=some ⟨s,[],0⟩/\(∀t,t≠s->m'.get t=m.get t)/\m'.fs.length<=m.fs.length+1:=by
 have e:m.create s=(0,{m with fs:=dC MF.name m.fs ⟨s,[],0⟩}):=by
  unfold MD.create;rw [h.count,if_neg (by rw [hs];decide),if_neg (by rw [h.up];decide)]
 have ok:=h.ok.create s
 rw [e] at ok
 refine ⟨_,e,⟨ok,h.limit,h.armed,h.up⟩, ?_, ?_,fun t ht=> ?_,ql ..⟩
 ·rw [iO]
  show eY (dC MF.name m.fs ⟨s,[],0⟩)+_=_
  rw [wU]
  exact NW h.ok s
 ·show aO MF.name (dC MF.name m.fs _) s=_
  rw [h.ok.rising.get_put,if_pos rfl]
 ·show aO MF.name (dC MF.name m.fs _) t=_
  rw [h.ok.rising.get_put,if_neg ht];rfl
theorem Calm.append {L:Int} {m:MD} (h:Calm L m) {s b:Bs} {f:MF} (hf:m.get s=some f) (hb:(m.used:Int)+b.length<=L):
  ∃m',m.append s b=(0,m')/\Calm L m'/\m'.used=m.used+b.length/\m'.get s=some {f with b:=f.b++b}/\(∀t,t≠s->m'.get t=m.get t)/\m'.fs.length=m.fs.length:=by
 have e:m.append s b=(0,{m with fs:=dE MF.name m.fs s fun f=>{f with b:=f.b++b}}):=by
  unfold MD.append;rw [hf,h.count]
  simp only
  rw [if_neg (by rw [h.limit,h.up];simp;omega),if_neg (by rw [h.up];decide)]
 have ok:=h.ok.append s b
 rw [e] at ok
 refine ⟨_,e,⟨ok,h.limit,h.armed,h.up⟩, ?_, ?_,fun t ht=> ?_,length_set ..⟩
 ·have:=sQ h.ok.rising hf fun f=>{f with b:=f.b++b}
  have hu:=fM h.ok.rising hf
  rw [iO,iO]
  simp at this
  show eY (dE MF.name m.fs s _)=_
  omega
 ·show aO MF.name (dE MF.name m.fs s _) s=_
  rw [yB m.fs s (fun f=>{f with b:=f.b++b}) (fun _=>rfl),show aO MF.name m.fs s=some f from hf]
  simp
 ·show aO MF.name (dE MF.name m.fs s _) t=_
  rw [yB m.fs s (fun f=>{f with b:=f.b++b}) (fun _=>rfl)]
  simp [ht,MD.get]
theorem Calm.sync {L:Int} {m:MD} (h:Calm L m) {s:Bs} {f:MF} (hf:m.get s=some f):
  ∃m',m.sync s=(0,m')/\Calm L m'/\m'.used=m.used/\m'.get s=some {f with synced:=f.b.length}/\(∀t,t≠s->m'.get t=m.get t)/\m'.fs.length=m.fs.length:=by
 have e:m.sync s=(0,{m with fs:=dE MF.name m.fs s fun f=>{f with synced:=f.b.length}}):=by
  unfold MD.sync;rw [hf,h.count];simp only;rw [if_neg (by rw [h.up];decide)]
 have ok:=h.ok.sync s
 rw [e] at ok
 refine ⟨_,e,⟨ok,h.limit,h.armed,h.up⟩, ?_, ?_,fun t ht=> ?_,length_set ..⟩
 ·have:=sQ h.ok.rising hf fun f=>{f with synced:=f.b.length}
  have hu:=fM h.ok.rising hf
  rw [iO,iO]
  simp at this
  show eY (dE MF.name m.fs s _)=_
  omega
 ·show aO MF.name (dE MF.name m.fs s _) s=_
  rw [yB m.fs s (fun f=>{f with synced:=f.b.length}) (fun _=>rfl),show aO MF.name m.fs s=some f from hf]
  simp
 ·show aO MF.name (dE MF.name m.fs s _) t=_
  rw [yB m.fs s (fun f=>{f with synced:=f.b.length}) (fun _=>rfl)]
  simp [ht,MD.get]
theorem Calm.rename {L:Int} {m:MD} (h:Calm L m) {a c:Bs} {f:MF} (hf:m.get a=some f) (hc:right c=true):
  ∃m',m.rename a c=(0,m')/\Calm L m'/\m'.used<=m.used/\m'.get c=some {f with name:=c}/\(a≠c->m'.get a=none)/\(∀t,t≠a->t≠c->m'.get t=m.get t)/\m'.fs.length<=m.fs.length:=by
 have e:m.rename a c=(0,{m with fs:=dC MF.name (bC MF.name m.fs a) {f with name:=c}}):=by
  unfold MD.rename;rw [hf,h.count];simp only;rw [if_neg (by rw [hc];decide),if_neg (by rw [h.up];decide)]
 have ok:=h.ok.rename a c
 rw [e] at ok
 have hu:=fM h.ok.rising hf
 have hr:=h.ok.rising.drop a
 refine ⟨_,e,⟨ok,h.limit,h.armed,h.up⟩, ?_, ?_,fun hac=> ?_,fun t ht htc=> ?_, ?_⟩
 ·rw [iO,iO]
  show eY (dC MF.name _ _)<=_
  rw [wU]
  have:=jO (bC MF.name m.fs a) c
  simp only
  omega
 ·show aO MF.name (dC MF.name _ _) c=_
  rw [hr.get_put,if_pos rfl]
 ·show aO MF.name (dC MF.name _ _) a=_
  rw [hr.get_put,if_neg hac,h.ok.rising.vk,if_pos rfl]
 ·show aO MF.name (dC MF.name _ _) t=_
  rw [hr.get_put,if_neg htc,h.ok.rising.vk,if_neg ht];rfl
 ·have h1:=ql (bC MF.name m.fs a) {f with name:=c}
  have h2:(bC MF.name m.fs a).length < m.fs.length:=by
   unfold bC
   rw [<-List.countP_eq_length_filter]
   have hm:=get_mem hf
   rcases Nat.lt_or_ge (List.countP (fun x:MF=>x.name !=a) m.fs) m.fs.length with h|h
   ·exact h
   ·have:=List.countP_eq_length.1 (Nat.le_antisymm List.countP_le_length h) f hm.1
    simp [hm.2] at this
  show (dC MF.name _ _).length<=_
  omega
theorem Calm.remove {L:Int} {m:MD} (h:Calm L m) {s:Bs} {f:MF} (hf:m.get s=some f):
  ∃m',m.remove s=(0,m')/\Calm L m'/\m'.used+f.b.length=m.used/\m'.get s=none/\(∀t,t≠s->m'.get t=m.get t)/\m'.fs.length<=m.fs.length:=by
 have e:m.remove s=(0,{m with fs:=bC MF.name m.fs s}):=by
  unfold MD.remove;rw [hf,h.count];simp only;rw [if_neg (by rw [h.up];decide)]
 have ok:=h.ok.remove s
 rw [e] at ok
 refine ⟨_,e,⟨ok,h.limit,h.armed,h.up⟩,(fM h.ok.rising hf).symm, ?_,fun t ht=> ?_,length_drop ..⟩
 ·show aO MF.name (bC MF.name m.fs s) s=_
  rw [h.ok.rising.vk,if_pos rfl]
 ·show aO MF.name (bC MF.name m.fs s) t=_
  rw [h.ok.rising.vk,if_neg ht];rfl
theorem GZ {m:MD} {s:Bs} (hf:m.get s=none):m.remove s=(22,m):=by unfold MD.remove;rw [hf]
end MD
end Go.Proofs.YtbnkdnlfdofepaaGreat
namespace Go.Proofs.YtbnkdnlfdofepaaGreat
namespace Am
open Go.RowKit
set_option maxRecDepth 100000
section
variable {X:Type} {h0 h h':Hp X}
theorem Keep.own {S:Nat->Prop} (a:Keep NoB h0 h) (b:Keep S h h') (hs:∀k,S k->h0.n<=k):Keep NoB h0 h':=a.trans b (fun g hg q=>absurd (hs g q) (by omega))
theorem Keep.on {S T:Nat->Prop} (a:Keep S h0 h) (b:Keep T h h') (hs:∀k,T k->h0.n<=k\/S k):Keep S h0 h':=a.trans b (fun g hg q=>by rcases hs g q with q|q;omega;exact q)
theorem Keep.and {S:Nat->Prop} (a:Keep S h0 h) (b:Keep NoB h h'):Keep S h0 h':=a.trans b (fun _ _ q=>q.elim)
theorem Keep.any {S:Nat->Prop} (a:Keep NoB h0 h):Keep S h0 h:=a.mono (fun _ _ q=>q.elim)
theorem RS.up {z n:Nat} {v:AV} {cells:List AV} (a:RS h z v n cells) (k:Keep NoB h h'):RS h' z v n cells:=a.keep k (fun _ _ q=>q)
theorem OS.up {z n:Nat} {v:AV} {cells:List AV} (a:OS h z v n cells) (k:Keep NoB h h'):OS h' z v n cells:=a.keep k (fun _ _ q=>q)
structure Bx (h:Hp X) (g:Nat) (l:List AV):Prop where
 lt:g < h.n
 get:h.get g=some (.rw l)
theorem Bx.keep {S:Nat->Prop} {g:Nat} {l:List AV} (a:Bx h g l) (k:Keep S h h') (hs:¬S g):Bx h' g l:=⟨Nat.lt_of_lt_of_le a.lt k.n,by rw [k.get g a.lt hs];exact a.get⟩
theorem Bx.up {g:Nat} {l:List AV} (a:Bx h g l) (k:Keep NoB h h'):Bx h' g l:=a.keep k (fun q=>q)
theorem aH {l:List AV}:Bx (h.push (.rw l)) h.n l:=⟨Nat.lt_succ_self _,Hp.aK _ _⟩
theorem Bx.put {g:Nat} {l r:List AV} (a:Bx h g l):Bx (h.put g (.rw r)) g r:=⟨a.lt,Hp.bW _ _ _⟩
theorem Bx.iQ {g j:Nat} {l:List AV} {c:AB X} (a:Bx h g l) (hj:g≠j):Bx (h.put j c) g l:=⟨a.lt,by rw [Hp.iQ _ _ _ hj];exact a.get⟩
structure Ob (h:Hp X) (g:Nat) (x:X):Prop where
 lt:g < h.n
 get:h.get g=some (.obj x)
theorem Ob.keep {S:Nat->Prop} {g:Nat} {x:X} (a:Ob h g x) (k:Keep S h h') (hs:¬S g):Ob h' g x:=⟨Nat.lt_of_lt_of_le a.lt k.n,by rw [k.get g a.lt hs];exact a.get⟩
theorem Ob.up {g:Nat} {x:X} (a:Ob h g x) (k:Keep NoB h h'):Ob h' g x:=a.keep k (fun q=>q)
theorem Ob.put {g:Nat} {x y:X} (a:Ob h g x):Ob (h.put g (.obj y)) g y:=⟨a.lt,Hp.bW _ _ _⟩
end
section
variable {X:Type} {e:En} {t:List AV} {h:Hp X}
theorem zk:∀b:List UInt8,bytesOf (b.map ub)=some b
 |[]=>rfl
 |x::b=>by
  have ih:=zk b
  simp only [List.map_cons,bytesOf,ub] at ih ⊢
  simp [ih]
theorem fP {x:Od} {v:AV} {b:List UInt8} (hx:x.ev e t=v) (hr:RS h 1 v b.length (b.map ub)):(Mv.b2s x).ev e t h=some (.str b):=by
 simp only [Mv.ev,hx]
 cases v<;>first|exact hr.elim|skip
 ·obtain ⟨_,rfl,hg,l,hl,hle,hc⟩:=hr
  simp only [hl]
  unfold takeN
  rw [Nat.mul_one] at hle hc
  rw [dK hle]
  simp only [cond_true]
  rw [<-hc,zk]
 ·obtain ⟨h1,_⟩:=hr
  rw [List.eq_nil_of_length_eq_zero h1]
 ·obtain ⟨h1,_⟩:=hr
  rw [List.eq_nil_of_length_eq_zero h1]
theorem uG {q:Eq} {x y:Od} {a b:List UInt8} (hx:x.ev e t= .str a) (hy:y.ev e t= .str b):(Mv.bin .eql q x y).ev e t h=some (.bool (a==b)):=by
 simp only [Mv.ev,hx,hy,Am.bin,AV.onStr,strOp]
theorem Q5 {q:Eq} {x y:Od} {a b:List UInt8} (hx:x.ev e t= .str a) (hy:y.ev e t= .str b):(Mv.bin .neq q x y).ev e t h=some (.bool (!(a==b))):=by
 simp only [Mv.ev,hx,hy,Am.bin,AV.onStr,strOp]
theorem Eu {q:Eq} {x y:Od} {a b:List UInt8} (hx:x.ev e t= .str a) (hy:y.ev e t= .str b) (hl:a.length+b.length<=8388608):(Mv.bin .add q x y).ev e t h=some (.str (a++b)):=by
 simp only [Mv.ev,hx,hy,Am.bin,AV.onStr,strOp]
 rw [if_pos hl]
theorem nC {x:Od} {g o:Nat} (hx:x.ev e t= .ptr g o):(Mv.bin .eql .ptr x (.const .bU)).ev e t h=some (.bool false):=by
 show bin .eql .ptr (x.ev e t) .bU=_
 rw [hx];rfl
theorem Lt {q:Eq} {x y:Od} {a b:Int} (hx:x.ev e t= .int .i64 a) (hy:y.ev e t= .int .i64 b) (hc: -9223372036854775808<=a+b/\a+b < 9223372036854775808):(Mv.bin .add q x y).ev e t h=some (.int .i64 (a+b)):=by simp [Mv.ev,hx,hy,Am.bin,AV.onInt,intOp,isShift,NQ hc]
theorem au {x:Od} {g o:Nat} {l:List AV} {v:AV} (hb:Bx h g l) (hx:x.ev e t= .ptr g o) (hv:l[o]?=some v):(Mv.ld1 x).ev e t h=some v:=eG hx hb.get hv
theorem dh {n:Nat} {x:Od} {g o:Nat} {l:List AV} (hb:Bx h g l) (hx:x.ev e t= .ptr g o) (ho:o+n<=l.length):(Mv.ldn n x).ev e t h=some (.agg ((l.drop o).take n)):=xJ hx hb.get ho
theorem fQ {a x:Od} {g o:Nat} {l:List AV} {v:AV} (hb:Bx h g l) (ha:a.ev e t= .ptr g o) (hx:x.ev e t=v) (hv:cellsOf v=some [v]/\v.one=true) (ho:o < l.length):(Ef.store 1 a x).ev e t h=some (.bot,h.put g (.rw (spl o [v] l))):=sS ha hx hv hb.get ho
theorem aV {n:Nat} {a x:Od} {g o:Nat} {l vs:List AV} (hb:Bx h g l) (ha:a.ev e t= .ptr g o) (hx:x.ev e t= .agg vs) (hall:allOne vs=true) (hn:vs.length=n) (ho:o+n<=l.length):(Ef.store n a x).ev e t h=some (.bot,h.put g (.rw (spl o vs l))):=lC ha hx hall hn hb.get ho
end
section
variable {X:Type} {e:En} {t:List AV} {h:Hp X}
theorem Jt {z0 z1 z2:AV} {x y z:Od} {a b c:AV} (hx:x.ev e t=a) (hy:y.ev e t=b) (hz:z.ev e t=c) (ha:cellsOf a=some [a]) (hb:cellsOf b=some [b]) (hc:cellsOf c=some [c]):
  (Mv.bld [z0,z1,z2] [(0,1,x),(1,1,y),(2,1,z)]).ev e t h=some (.agg [a,b,c]):=by
 simp only [Mv.ev,List.map,hx,hy,hz,fillA,ha,hb,hc]
 rfl
theorem aX {a b c:AV} (ha:a.one=true) (hb:b.one=true) (hc:c.one=true):allOne [a,b,c]=true:=by
 unfold allOne
 cases a<;>first|(cases ha;done)|(cases b<;>first|(cases hb;done)|(cases c<;>first|(cases hc;done)|rfl))
end
noncomputable def look {X:Type}:List (Nat×Ent X)->Nat->Option (Ent X)
 |[],_=>none
 |p::r,f=>if f=p.1 then some p.2 else look r f
theorem zl {X:Type}:∀{l:List (Nat×Ent X)} {f:Nat} {e:Ent X},look l f=some e->(f,e)∈l
 |[],_,_,h=>by cases h
 |p::r,f,e,h=>by
  unfold look at h
  split at h
  ·rename_i hf;cases h;subst hf;exact List.mem_cons_self ..
  ·exact List.mem_cons_of_mem _ (zl h)
theorem zn {X:Type} {l:List (Nat×Ent X)} (hl:∀p∈l,p.2.plain):∀f e,look l f=some e->e.plain:=fun f e h=>hl (f,e) (zl h)
theorem look_ok {P:Program} {O:dH} {l:List (Nat×Ent O.X)} (hl:∀p∈l,∀N,jD P O p.1 (vK N p.2)):∀f e,look l f=some e->∀N,jD P O f (vK N e):=fun f e h=>hl (f,e) (zl h)
section
variable {E:Nat->Option (Ent MD)} (hE:∀f e,E f=some e->e.plain)
omit hE in
theorem zo {g:Nat} {x:MD} {h:Hp MD} (k:Nat->MD->gp MD) (hg:Ob h g x) (hn:x.fs.length<=1099511627775):onObj h (.ptr g 0) k=k g x:=by
 unfold onObj
 simp only [Nat.beq_refl,hg.get,cond_true,dK hn]
include hE
theorem nD {f g:Nat} {F:MD->List UInt8->Int×MD} (hf:E f=some (.nat (jg F))) {x:MD} {h:Hp MD} (hg:Ob h g x) (hn:x.fs.length<=1099511627775) (s:List UInt8):
  WF (lim E) f [.ptr g 0, .str s] h fun r h'=>r= .int .i64 (F x s).1/\Ob h' g (F x s).2/\Keep (az g) h h':=by
 have e:∀D,jg F D [.ptr g 0, .str s] h= .ret (.int .i64 (F x s).1) (h.put g (.obj (F x s).2)):=fun D=>zo (fun g x=> .ret (.int .i64 (F x s).1) (h.put g (.obj (F x s).2))) hg hn
 refine ⟨⟨_,_,(iP hE hf (D:=lim E) (by rw [e];intro q;cases q)).trans (e _),rfl,hg.put,Keep.put _ _ _ rfl⟩⟩
theorem Q7 {f g:Nat} (hf:E f=some (.nat qW)) {x:MD} {h:Hp MD} (hg:Ob h g x) (hn:x.fs.length<=1099511627775) (s u:List UInt8):
  WF (lim E) f [.ptr g 0, .str s, .str u] h fun r h'=>r= .int .i64 (x.rename s u).1/\Ob h' g (x.rename s u).2/\Keep (az g) h h':=by
 have e:∀D,qW D [.ptr g 0, .str s, .str u] h= .ret (.int .i64 (x.rename s u).1) (h.put g (.obj (x.rename s u).2)):=fun D=>zo (fun g x=> .ret (.int .i64 (x.rename s u).1) (h.put g (.obj (x.rename s u).2))) hg hn
 refine ⟨⟨_,_,(iP hE hf (D:=lim E) (by rw [e];intro q;cases q)).trans (e _),rfl,hg.put,Keep.put _ _ _ rfl⟩⟩
theorem aaN {f g:Nat} (hf:E f=some (.nat Gv)) {x:MD} {h:Hp MD} (hg:Ob h g x) (hn:x.fs.length<=1099511627775) (s:List UInt8) (n:Int):
  WF (lim E) f [.ptr g 0, .str s, .int .i64 n] h fun r h'=>r= .int .i64 (x.cut s n).1/\Ob h' g (x.cut s n).2/\Keep (az g) h h':=by
 have e:∀D,Gv D [.ptr g 0, .str s, .int .i64 n] h= .ret (.int .i64 (x.cut s n).1) (h.put g (.obj (x.cut s n).2)):=fun D=>zo (fun g x=> .ret (.int .i64 (x.cut s n).1) (h.put g (.obj (x.cut s n).2))) hg hn
 refine ⟨⟨_,_,(iP hE hf (D:=lim E) (by rw [e];intro q;cases q)).trans (e _),rfl,hg.put,Keep.put _ _ _ rfl⟩⟩
omit hE in
theorem CG:∀b:List UInt8,bytesR (b.map ub)=some b
 |[]=>rfl
 |x::b=>by
  have ih:=CG b
  have hx:Nat.blt x.toNat 256=true:=by rw [Nat.blt_eq];exact x.toNat_lt
  show (bif Nat.blt x.toNat 256 then (match bytesR (b.map ub) with|some r=>some (UInt8.ofNat x.toNat::r)|none=>none) else none)=_
  rw [ih,hx]
  simp
theorem zq {f g:Nat} (hf:E f=some (.nat nV)) {x:MD} {h:Hp MD} (hg:Ob h g x) (hn:x.fs.length<=1099511627775) (s:List UInt8) {v:AV} {b:List UInt8} (hr:RS h 1 v b.length (b.map ub)):
  WF (lim E) f [.ptr g 0, .str s,v] h fun r h'=>r= .int .i64 (x.append s b).1/\Ob h' g (x.append s b).2/\Keep (az g) h h':=by
 have e:∀D,nV D [.ptr g 0, .str s,v] h= .ret (.int .i64 (x.append s b).1) (h.put g (.obj (x.append s b).2)):=fun D=>by
  show onObj h (.ptr g 0) (fun g x=>match elems h 1 v with
   |some (_,r)=>(match bytesR r with|some b=> .ret (.int .i64 (x.append s b).1) (h.put g (.obj (x.append s b).2))|none=> .bad)
   |none=> .bad)=_
  rw [zo _ hg hn,hr.elems]
  simp only [CG]
 refine ⟨⟨_,_,(iP hE hf (D:=lim E) (by rw [e];intro q;cases q)).trans (e _),rfl,hg.put,Keep.put _ _ _ rfl⟩⟩
theorem xM {f g:Nat} (hf:E f=some (.nat qX)) {x:MD} {h:Hp MD} (hg:Ob h g x) (hn:x.fs.length<=1099511627775) {s:List UInt8} (hs:x.get s=none):
  WF (lim E) f [.ptr g 0, .str s] h fun r h'=>r= .tup [.ae, .bool false]/\h'=h:=by
 have e:∀D,qX D [.ptr g 0, .str s] h= .ret (.tup [.ae, .bool false]) h:=fun D=>by
  refine (zo (fun _ x=>match x.get s with
 |none=> .ret (.tup [.ae, .bool false]) h
 |some f=>bif Nat.beq f.b.length 0 then .ret (.tup [.bV, .bool true]) h else .ret (.tup [.slice 1 h.n 0 f.b.length none, .bool true]) (h.push (.rw (f.b.map fun b=> .int .u8 b.toNat)))) hg hn).trans ?_
  simp only [hs]
 exact ⟨⟨_,_,(iP hE hf (D:=lim E) (by rw [e];intro q;cases q)).trans (e _),rfl,rfl⟩⟩
theorem Ju {f g:Nat} (hf:E f=some (.nat qX)) {x:MD} {h:Hp MD} (hg:Ob h g x) (hn:x.fs.length<=1099511627775) {s:List UInt8} {m:MF} (hs:x.get s=some m):
  WF (lim E) f [.ptr g 0, .str s] h fun r h'=>∃v,r= .tup [v, .bool true]/\Keep NoB h h'/\RS h' 1 v m.b.length (m.b.map ub)/\∀k,blk v k->h.n<=k:=by
 have e:∀D,qX D [.ptr g 0, .str s] h=bif Nat.beq m.b.length 0 then .ret (.tup [.bV, .bool true]) h else .ret (.tup [.slice 1 h.n 0 m.b.length none, .bool true]) (h.push (.rw (m.b.map fun b=> .int .u8 b.toNat))):=fun D=>by
  refine (zo (fun _ x=>match x.get s with
 |none=> .ret (.tup [.ae, .bool false]) h
 |some f=>bif Nat.beq f.b.length 0 then .ret (.tup [.bV, .bool true]) h else .ret (.tup [.slice 1 h.n 0 f.b.length none, .bool true]) (h.push (.rw (f.b.map fun b=> .int .u8 b.toNat)))) hg hn).trans ?_
  simp only [hs]
 cases hz:Nat.beq m.b.length 0 with
 |true=>
  have hz':=Nat.eq_of_beq_eq_true hz
  have hb:m.b=[]:=List.eq_nil_of_length_eq_zero hz'
  rw [hz] at e
  exact ⟨⟨_,_,(iP hE hf (D:=lim E) (by rw [e];intro q;cases q)).trans (e _), .bV,rfl,Keep.refl _ _,by rw [hb];exact ⟨rfl,rfl⟩,fun k q=>q.elim⟩⟩
 |false=>
  rw [hz] at e
  exact ⟨⟨_,_,(iP hE hf (D:=lim E) (by rw [e];intro q;cases q)).trans (e _),_,rfl,Keep.push _ _ _,bH (by simp),fun k q=>by cases q;exact Nat.le_refl _⟩⟩
theorem aaO {f:Nat} (hf:E f=some (.nat Gx)) {h:Hp MD} {n:Int} (h0:0<=n) (h1:n<=16777216):WF (lim E) f [.int .i64 n] h fun r h'=>r= .tup [.ptr h.n 0, .int .i64 0]/\Ob h' h.n (MD.new n)/\Keep NoB h h'/\h'.n=h.n+1:=by
 have e:∀D,Gx D [.int .i64 n] h= .ret (.tup [.ptr h.n 0, .int .i64 0]) (h.push (.obj (MD.new n))):=fun D=>by
  show (bif decide (0<=n) && decide (n<=16777216) then _ else _:gp MD)=_
  rw [decide_eq_true h0,decide_eq_true h1]
  rfl
 exact ⟨⟨_,_,(iP hE hf (D:=lim E) (by rw [e];intro q;cases q)).trans (e _),rfl,⟨Nat.lt_succ_self _,Hp.aK _ _⟩,Keep.push _ _ _,rfl⟩⟩
theorem V8 {f g:Nat} (hf:E f=some (.nat vH)) {x:MD} {h:Hp MD} (hg:Ob h g x) (hn:x.fs.length<=1099511627775):
  WF (lim E) f [.ptr g 0] h fun r h'=>Keep NoB h h'/\RS h' 1 r x.fs.length (x.fs.map fun f=> .str f.name)/\∀k,blk r k->h.n<=k:=by
 have e:∀D,vH D [.ptr g 0] h=bif Nat.beq x.fs.length 0 then .ret .bV h else .ret (.slice 1 h.n 0 x.fs.length none) (h.push (.rw (x.fs.map fun f=> .str f.name))):=fun D=>zo (fun _ (x:MD)=>bif Nat.beq x.fs.length 0 then .ret .bV h else .ret (.slice 1 h.n 0 x.fs.length none) (h.push (.rw (x.fs.map fun (f:MF)=>AV.str f.name)))) hg hn
 cases hz:Nat.beq x.fs.length 0 with
 |true=>
  have hz':=Nat.eq_of_beq_eq_true hz
  have hb:x.fs=[]:=List.eq_nil_of_length_eq_zero hz'
  rw [hz] at e
  exact ⟨⟨_,_,(iP hE hf (D:=lim E) (by rw [e];intro q;cases q)).trans (e _),Keep.refl _ _,by rw [hb];exact ⟨rfl,rfl⟩,fun k q=>q.elim⟩⟩
 |false=>
  rw [hz] at e
  exact ⟨⟨_,_,(iP hE hf (D:=lim E) (by rw [e];intro q;cases q)).trans (e _),Keep.push _ _ _,bH (by simp),fun k q=>by cases q;exact Nat.le_refl _⟩⟩
end
end Am
end Go.Proofs.YtbnkdnlfdofepaaGreat
