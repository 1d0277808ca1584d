/- Package manifest: may a list be? Package manifest: a list as bytes. Package manifest: Encode told. Package manifest: Decode told. Chapter 10's own Decode, Encode; chapter 4's reader of numbers. -/
import Derived.Test.YtbnkdnlfdofepaaGreatMN
import Derived.Test.YtbnkdnlfdofepaaGreatMH
set_option linter.unusedVariables false
set_option linter.unusedSimpArgs false
namespace Go.Proofs.YtbnkdnlfdofepaaGreat
namespace Am
open Go.RowKit
set_option maxRecDepth 100000
def ru:BF:=⟨9,[0,1,4],(.seq (.reg [mvS 2 (.mv (.const (.bool false)))]) (.seq (.reg [ceS 5 0,ceS 6 1,clE 7 183 [eV 5,eV 6],mvE 8 (.bin .geq .no (eV 7) (.const (.int .i64 0))),csE 2 8]) .ret)),[.slot (sL 2)]⟩
def jG:BF:=⟨51,[0,1,2,3,4,25,27,28,29,30,49],(.seq (.reg [.mk none (.slot 1) (.eff (.box (sL 0))),mvS 2 (.mv (.const (.bool false)))]) (.seq (.seq (.reg [mvE 5 (.aG 0 (sL 1)),ldE 6 5,lnE 7 6,mvE 8 (.bin .gtr .no (eV 7) (.const (.int .i64 255))),ceE 9 8, .mk (some ((eV 9),false)) (.env 10) (.mov (.aG 1 (sL 1))), .mk (some ((eV 9),false)) (.env 11) (.mov (.ld1 (eV 10))), .mk (some ((eV 9),false)) (.env 12) (.mov (.bin .lss .no (eV 11) (.const (.int .i64 0)))),mvE 13 (.pick (eV 9) (.const (.bool true)) (eV 12)),ceE 14 13, .mk (some ((eV 14),false)) (.env 15) (.mov (.aG 2 (sL 1))), .mk (some ((eV 14),false)) (.env 16) (.mov (.ld1 (eV 15))), .mk (some ((eV 14),false)) (.env 17) (.mov (.bin .gtr .no (eV 16) (.const (.int .i64 16777215)))),mvE 18 (.pick (eV 14) (.const (.bool true)) (eV 17)),ceE 19 18, .mk (some ((eV 19),false)) (.env 20) (.mov (.aG 2 (sL 1))), .mk (some ((eV 19),false)) (.env 21) (.mov (.ld1 (eV 20))), .mk (some ((eV 19),false)) (.env 22) (.mov (.aG 1 (sL 1))), .mk (some ((eV 19),false)) (.env 23) (.mov (.ld1 (eV 22))), .mk (some ((eV 19),false)) (.env 24) (.mov (.bin .leq .no (eV 21) (eV 23))),mvS 5 (.pick (eV 19) (.const (.bool true)) (eV 24))]) (.cond (sL 5) (.seq (.reg [mvS 2 (.mv (.const (.bool false)))]) .ret) .skip)) (.seq (.seq (.reg [mvE 26 (.aG 0 (sL 1)),mvS 6 (.ld1 (eV 26)),mvS 7 (.ah (sL 6)),mvS 8 (.mv (.const (.int .i64 0)))]) (.block 0 (.loop (.seq (.reg [mvS 9 (.bin .lss .no (sL 8) (sL 7))]) (.seq (.cond (sL 9) .skip (.exit 0)) (.seq (.block 1 (.seq (.reg [ceS 31 8,mvE 32 (.aP 1 (sL 6) (sL 8)),ldE 33 32,csE 3 31,csE 4 33]) (.seq (.reg [ceS 34 4,mvE 35 (.bin .lss .no (eV 34) (.const (.int .i64 0))),ceE 36 35, .mk (some ((eV 36),false)) (.env 37) (.mov (.mv (sL 4))), .mk (some ((eV 36),false)) (.env 38) (.mov (.aG 2 (sL 1))), .mk (some ((eV 36),false)) (.env 39) (.mov (.ld1 (eV 38))), .mk (some ((eV 36),false)) (.env 40) (.mov (.bin .geq .no (eV 37) (eV 39))),mvE 41 (.pick (eV 36) (.const (.bool true)) (eV 40)),ceE 42 41, .mk (some ((eV 42),false)) (.env 43) (.mov (.aG 0 (sL 1))), .mk (some ((eV 42),false)) (.env 44) (.mov (.ld1 (eV 43))), .mk (some ((eV 42),false)) (.env 45) (.mov (.mv (sL 3))), .mk (some ((eV 42),false)) (.env 46) (.mov (.sl 1 (eV 44) none (some (eV 45)) none)), .mk (some ((eV 42),false)) (.env 47) (.mov (.mv (sL 4))), .mk (some ((eV 42),false)) (.env 48) (.call 172 [eV 46,eV 47]),mvS 10 (.pick (eV 42) (.const (.bool true)) (eV 48))]) (.cond (sL 10) (.seq (.reg [mvS 2 (.mv (.const (.bool false)))]) .ret) .skip)))) (.reg [mvE 50 (.bin .add .no (sL 8) (.const (.int .i64 1))),csE 8 50]))))))) (.seq (.reg [mvS 2 (.mv (.const (.bool true)))]) .ret)))),[.slot (sL 2)]⟩
section
variable {e:En} {t:List AV} {X:Type} {h:Hp X}
theorem iD {x:Od} {l:List AV} (hx:x.ev e t= .agg l) (hall:allOne l=true):(Ef.box x).ev e t h=some (.ptr h.n 0,h.push (.rw l)):=by
 simp only [Ef.ev,hx]
 show (bif allOne l then some (AV.ptr h.n 0,h.push (.rw l)) else none)=_
 rw [hall]
 rfl
theorem V9 {a:AV} {j k:IntKind} {b c:Int} (ha:a.one=true):allOne [a, .int j b, .int k c]=true:=by
 unfold allOne
 cases a<;>first|(cases ha;done)|rfl
end
section
variable {X:Type} {E:Nat->Option (Ent X)}
theorem RS.cut {α:Type} {f:α->AV} {h:Hp X} {v:AV} {bs:List α} (a:RS h 1 v bs.length (bs.map f)) {lo hi:Nat} (h1:lo<=hi) (h2:hi<=bs.length):∃v',RS h 1 v' ((bs.drop lo).take (hi - lo)).length (((bs.drop lo).take (hi - lo)).map f)/\(∀g,blk v' g->blk v g)/\(v≠ .bV->v'≠ .bV)/\
  ∀{hh:Hp X} {e:En} {t:List AV} {x:Od} {ol oh:Option Od},x.ev e t=v->Bnd ol e t lo 0->Bnd oh e t hi bs.length->(Mv.sl 1 x ol oh none).ev e t hh=some v':=by
 obtain ⟨v',k1,k2,k3,k4⟩:=a.sl h1 h2
 refine ⟨v', ?_,k2,k3,k4⟩
 have e1:((bs.map f).drop (lo*1)).take ((hi - lo)*1)=((bs.drop lo).take (hi - lo)).map f:=by rw [Nat.mul_one,Nat.mul_one,<-List.map_drop,<-List.map_take]
 have e2:hi - lo=((bs.drop lo).take (hi - lo)).length:=by rw [List.length_take,List.length_drop];omega
 rw [e1] at k1
 rw [<-e2]
 exact k1
theorem Lu {x:Int}:∀{l:List Int} {k:Nat},0<=GN x l k↔x∈l
 |[],k=>by
  show (0:Int)<=Int.negSucc 0↔_
  simp
 |y::l,k=>by
  rw [Cj,List.mem_cons]
  by_cases h:x=y
  ·rw [if_pos h];simp [h]
  ·rw [if_neg h,Lu (l:=l)];simp [h]
theorem Zm (hE:∀f e,E f=some e->e.plain) (hf:E 172=some (.bc ru)) (hi:E 183=some (.bc qg)) {h:Hp X} {v:AV} {l:List Int} {x:Int} (hr:RS h 1 v l.length (l.map iv)) (hlen:l.length<=maxLen):
  WF (lim E) 172 [v, .int .i64 x] h fun r h'=>h'=h/\∃c,r= .bool c/\(c=true↔x∈l):=by
 refine aC hE hf rfl ?_
 simp only [ru,mvE,mvS,clE,efE,ceS,ceE,csE,faE,nlE,ldE,lnE,exE,eV,sL,kI,List.map,getS]
 repeat first|refine ZA ?_|refine BP ?_|refine BQ ?_
 refine ag rfl ((Zh hE hi hr hlen).mono fun r h1 ⟨e1,e2⟩=> ?_)
 subst e1 e2
 have hx:=Lu (x:=x) (l:=l) (k:=0)
 generalize GN x l 0=k at hx
 by_cases h0:0<=k
 ·repeat first|refine ZA ?_|refine BP ?_|refine BQ ?_
  exact ⟨rfl,true,rfl,Iff.intro (fun _=>hx.1 h0) (fun _=>rfl)⟩
 ·repeat first|refine ZA ?_|refine BP ?_|refine BQ ?_
  exact ⟨rfl,false,rfl,Iff.intro (fun q=>Bool.noConfusion q) (fun q=>absurd (hx.2 q) h0)⟩
def LsV (tv:AV) (w n:Int):AV:= .agg [tv, .int .i64 w, .int .i64 n]
set_option maxHeartbeats 8000000 in
theorem zt (hE:∀f e,E f=some e->e.plain) (hf:E 154=some (.bc jG)) (hh:E 172=some (.bc ru)) (hi:E 183=some (.bc qg)) {h:Hp X} {v:AV} {l:List Int} {wal next:Int} (hr:RS h 1 v l.length (l.map iv)) (hlen:l.length<=maxLen):
  WF (lim E) 154 [LsV v wal next] h fun r h'=>Keep NoB h h'/\r= .bool (xm l wal next):=by
 refine aC hE hf rfl ?_
 simp only [jG,mvE,mvS,clE,efE,ceS,ceE,csE,faE,nlE,ldE,lnE,exE,eV,sL,kI,List.map,getS]
 have hm:(maxLen:Int)=9223372036854775807:=rfl
 unfold xm
 rw [jP,jP,jP,jP,nX,nX,nX]
 refine AC (AD (vN (iD rfl (V9 hr.one.2)) rfl ?_))
 have hg:(h.push (.rw [v, .int .i64 wal, .int .i64 next])).get h.n=some (.rw [v, .int .i64 wal, .int .i64 next]):=Hp.aK _ _
 have hk:Keep NoB h (h.push (.rw [v, .int .i64 wal, .int .i64 next])):=Keep.push _ _ _
 have hr:=hr.keep hk (fun _ _ q=>q)
 generalize h.push (.rw [v, .int .i64 wal, .int .i64 next])=h1 at hg hk hr
 generalize h.n=g at hg
 simp only [setS]
 by_cases c1:(255:Int) < l.length
 ·repeat first|refine ZA ?_|refine BV (eG rfl hg rfl) ?_|refine BV (hr.ah (by rfl)) ?_|refine BP ?_|refine BQ ?_
  refine ⟨hk, ?_⟩
  rw [show Nat.ble l.length 255=false by cases hb:Nat.ble l.length 255 with|false=>rfl|true=>have:=Nat.le_of_ble_eq_true hb;omega]
  rfl
 rw [dK (show l.length<=255 by omega)]
 by_cases c2:wal < 0
 ·repeat first|refine ZA ?_|refine BV (eG rfl hg rfl) ?_|refine BV (hr.ah (by rfl)) ?_|refine BP ?_|refine BQ ?_
  exact ⟨hk,by simp [c2];rfl⟩
 by_cases c4:16777215 < next
 ·repeat first|refine ZA ?_|refine BV (eG rfl hg rfl) ?_|refine BV (hr.ah (by rfl)) ?_|refine BP ?_|refine BQ ?_
  exact ⟨hk,by simp [c2,c4];rfl⟩
 by_cases c5:next<=wal
 ·repeat first|refine ZA ?_|refine BV (eG rfl hg rfl) ?_|refine BV (hr.ah (by rfl)) ?_|refine BP ?_|refine BQ ?_
  exact ⟨hk,by simp [c2,c4,show¬wal < next by omega];rfl⟩
 have hres:(true && (!decide (wal < 0) && (!decide (next < 0) && (!decide (16777215 < next) && (decide (wal < next) && Ep next l [])))))=Ep next l []:=by
  simp [c2,c4,show¬next < 0 by omega,show wal < next by omega]
 rw [hres]
 repeat first|refine ZA ?_|refine BV (eG rfl hg rfl) ?_|refine BV (hr.ah (by rfl)) ?_|refine BP ?_|refine BQ ?_
 refine aQ (fun n t h'=>h'=h1/\∃(i:Nat) (s3 s4 s9 s10:AV),i<=l.length/\n=l.length - i/\Ep next (l.drop i) (l.take i).reverse=Ep next l []/\t=[LsV v wal next, .ptr g 0, .bool false,s3,s4, .bool false,v, .int .i64 l.length, .int .i64 i,s9,s10]) ?_ l.length _ _ ⟨rfl,0,_,_,_,_,by omega,by omega,by simp,rfl⟩
 rintro n t h' ⟨rfl,i,s3,s4,s9,s10,hi',hn,hx,rfl⟩
 by_cases hlt:(i:Int) < l.length
 ·obtain ⟨gg,o,ha,hl⟩:=hr.at1 (i:=i) (by omega) hlt
  rw [zg (i:=i) (by omega) hlt] at hl
  have hd:=drop_at (l:=l) (i:=i) (by omega) hlt
  have ht:=take_at (l:=l) (i:=i) (by omega) hlt
  rw [Int.toNat_natCast] at hd ht hl
  rw [show ((i:Int)+1).toNat=i+1 by omega] at hd ht
  rw [hd,Cm] at hx
  generalize hy:l.getD i 0=y at hx hl hd ht
  by_cases d1:y < 0
  ·rw [if_pos (.inl d1)] at hx
   repeat first|refine ZA ?_|refine BV (eG rfl hg rfl) ?_|refine BV (hr.ah (by rfl)) ?_|refine BV (ha rfl rfl) ?_|refine BV (hl rfl) ?_|refine BP ?_|refine BQ ?_
   exact ⟨hk,by rw [<-hx];rfl⟩
  by_cases d2:next<=y
  ·rw [if_pos (.inr (.inl d2))] at hx
   repeat first|refine ZA ?_|refine BV (eG rfl hg rfl) ?_|refine BV (hr.ah (by rfl)) ?_|refine BV (ha rfl rfl) ?_|refine BV (hl rfl) ?_|refine BP ?_|refine BQ ?_
   exact ⟨hk,by rw [<-hx];rfl⟩
  obtain ⟨vc,r1,r2,r3,r4⟩:=hr.cut (lo:=0) (hi:=i) (by omega) hi'
  rw [List.drop_zero,Nat.sub_zero] at r1
  repeat first|refine ZA ?_|refine BV (eG rfl hg rfl) ?_|refine BV (hr.ah (by rfl)) ?_|refine BV (ha rfl rfl) ?_|refine BV (hl rfl) ?_|refine BV (r4 (by rfl) (.inl ⟨rfl,rfl⟩) (.inr ⟨_,_,rfl,rfl⟩)) ?_|refine BP ?_|refine BQ ?_
  refine ag rfl ((Zm (x:=y) hE hh hi r1 (by rw [List.length_take];omega)).mono fun r h2 ⟨e1,c,e2,e3⟩=> ?_)
  subst e1 e2
  rw [<-List.mem_reverse] at e3
  cases c with
  |true=>
   rw [if_pos (.inr (.inr (e3.1 rfl)))] at hx
   repeat first|refine ZA ?_|refine BP ?_|refine BQ ?_
   exact ⟨hk,by rw [<-hx];rfl⟩
  |false=>
   repeat first|refine ZA ?_|refine BP ?_|refine BQ ?_
   rw [show ((i:Int)+1)=((i+1:Nat):Int) by omega]
   refine aj (n - 1) (by omega) ⟨rfl,i+1,_,_,_,_,by omega,by omega, ?_,rfl⟩
   rw [ht,<-hx,if_neg]
   rintro (q|q|q)
   ·exact d1 q
   ·exact d2 q
   ·have:=e3.2 q;cases this
 ·repeat first|refine ZA ?_|refine BP ?_|refine BQ ?_
  refine ⟨hk, ?_⟩
  have e:i=l.length:=by omega
  rw [e,List.drop_length] at hx
  rw [<-hx]
  rfl
end
def mX:BF:=⟨27,[0,1,4,6,16],(.seq (.reg [mvS 2 (.mv (.const .ae))]) (.seq (.seq (.reg [ceS 5 1,mvS 3 (.bin .lss .no (eV 5) (.const (.int .i64 0)))]) (.cond (sL 3) (.reg [mvE 7 (.yL 9 (.const (.str [99,97,110,110,111,116,32,98,101,32,110,101,103,97,116,105,118,101]))), .mk none .none (.pan (eV 7))]) .skip)) (.seq (.seq (.reg [ceS 8 1,ceS 9 0,mvE 10 (.DC (eV 9)),ceS 11 0,lnE 12 11,mvE 13 (.bin .sub .no (eV 10) (eV 12)),mvE 14 (.bin .sub .no (eV 8) (eV 13)),csE 1 14]) (.seq (.reg [ceS 15 1,mvS 4 (.bin .gtr .no (eV 15) (.const (.int .i64 0)))]) (.cond (sL 4) (.reg [ceS 17 0,ceS 18 0,mvE 19 (.DC (eV 18)),mvE 20 (.sl 1 (eV 17) none (some (eV 19)) none),ceS 21 1,efE 22 (.Aq 1 8 [(.int .i64 0)] (eV 20) (eV 21)),ceS 23 0,lnE 24 23,mvE 25 (.sl 1 (eV 22) none (some (eV 24)) none),csE 0 25]) .skip))) (.seq (.reg [ceS 26 0,csE 2 26]) .ret)))),[.slot (sL 2)]⟩
def iY:BF:=⟨36,[0,2,3,5,6,8,9,10,11,12,20,25,26,27,28],(.seq (.reg [mvS 1 (.mv (.const .ae))]) (.seq (.reg [mvS 2 (.mv (.const (.int .i64 0)))]) (.seq (.seq (.reg [mvS 6 (.mv (sL 0)),mvS 7 (.ah (sL 6)),mvS 8 (.mv (.const (.int .i64 0)))]) (.block 0 (.loop (.seq (.reg [mvS 9 (.bin .lss .no (sL 8) (sL 7))]) (.seq (.cond (sL 9) .skip (.exit 0)) (.seq (.block 1 (.seq (.reg [mvE 13 (.aP 1 (sL 6) (sL 8)),ldE 14 13,csE 3 14]) (.seq (.reg [ceS 15 2,ceS 16 3,lnE 17 16,mvE 18 (.bin .add .no (eV 15) (eV 17)),csE 2 18]) (.seq (.reg [ceS 19 2,mvS 10 (.bin .lss .no (eV 19) (.const (.int .i64 0)))]) (.cond (sL 10) (.reg [mvE 21 (.yL 9 (.const (.str [108,101,110,32,111,117,116,32,111,102,32,114,97,110,103,101]))), .mk none .none (.pan (eV 21))]) .skip))))) (.reg [mvE 22 (.bin .add .no (sL 8) (.const (.int .i64 1))),csE 8 22]))))))) (.seq (.reg [ceS 23 2,clE 24 126 [(.const .ae),eV 23],csE 4 24]) (.seq (.seq (.reg [mvS 11 (.mv (sL 0)),mvS 12 (.ah (sL 11)),mvS 13 (.mv (.const (.int .i64 0)))]) (.block 2 (.loop (.seq (.reg [mvS 14 (.bin .lss .no (sL 13) (sL 12))]) (.seq (.cond (sL 14) .skip (.exit 2)) (.seq (.block 3 (.seq (.reg [mvE 29 (.aP 1 (sL 11) (sL 13)),ldE 30 29,csE 5 30]) (.reg [ceS 31 4,ceS 32 5,efE 33 (.append 1 8 (eV 31) (eV 32)),csE 4 33]))) (.reg [mvE 34 (.bin .add .no (sL 13) (.const (.int .i64 1))),csE 13 34]))))))) (.seq (.reg [ceS 35 4,csE 1 35]) .ret)))))),[.slot (sL 1)]⟩
def jH:BF:=⟨35,[0,1,2,3,4,6,9,23,24,25,26],(.seq (.reg [.mk none (.slot 1) (.eff (.box (sL 0))),mvS 2 (.mv (.const .ae)),mvS 3 (.mv (.const (.int .i64 0)))]) (.seq (.seq (.reg [mvE 7 (.ldn 3 (sL 1)),clE 8 154 [eV 7],mvS 6 (.jd (eV 8))]) (.cond (sL 6) (.seq (.reg [mvS 2 (.mv (.const .ae)),mvS 3 (.mv (.const (.int .i64 1)))]) .ret) .skip)) (.seq (.reg [mvE 10 (.aG 0 (sL 1)),ldE 11 10,lnE 12 11,mvE 13 (.conv .u8 (eV 12)),efE 14 (.aF 1 1 [(.int .u8 0)] [(0,1,(eV 13))]),csE 4 14]) (.seq (.seq (.reg [mvE 15 (.aG 0 (sL 1)),ldE 16 15,mvE 17 (.aG 1 (sL 1)),ldE 18 17,mvE 19 (.aG 2 (sL 1)),ldE 20 19,efE 21 (.aF 1 2 [(.int .i64 0)] [(0,1,(eV 18)),(1,1,(eV 20))]),efE 22 (.aF 1 2 [.ae] [(0,1,(eV 16)),(1,1,(eV 21))]), .mk none (.slot 7) (.call 81 [eV 22]),mvS 8 (.ah (sL 7)),mvS 9 (.mv (.const (.int .i64 0)))]) (.block 0 (.loop (.seq (.reg [mvS 10 (.bin .lss .no (sL 9) (sL 8))]) (.seq (.cond (sL 10) .skip (.exit 0)) (.seq (.block 1 (.seq (.reg [mvE 27 (.aP 1 (sL 7) (sL 9)),ldE 28 27,csE 5 28]) (.reg [ceS 29 4,ceS 30 5,mvE 31 (.conv .u64 (eV 30)),clE 32 66 [eV 29,eV 31,(.const (.int .i64 3))],csE 4 32]))) (.reg [mvE 33 (.bin .add .no (sL 9) (.const (.int .i64 1))),csE 9 33]))))))) (.seq (.reg [ceS 34 4,csE 2 34,mvS 3 (.mv (.const (.int .i64 0)))]) .ret))))),[.slot (sL 2), .slot (sL 3)]⟩
section
variable {e:En} {t:List AV} {X:Type} {h:Hp X}
theorem LC {z by' k:Nat} {zero:List AV} {x n:Od} {kk:IntKind} (hx:x.ev e t= .ae) (hn:n.ev e t= .int kk (k:Int)) (h0:0 < k) (h1:k*by'<=140737488355328) (h2:k<=maxLen):(Ef.Aq z by' zero x n).ev e t h=some (.slice z h.n 0 k none,h.push (.rw (rep zero k))):=by
 simp only [Ef.ev,hx,hn,jQ]
 rw [show Nat.beq k 0=false from tY (by omega),dK h1,dK h2]
 rfl
theorem uH {x y:Od} {a b zero:AV} (hx:x.ev e t=a) (hy:y.ev e t=b) (ha:cellsOf a=some [a]/\a.one=true) (hb:cellsOf b=some [b]/\b.one=true):(Ef.aF 1 2 [zero] [(0,1,x),(1,1,y)]).ev e t h=some (.slice 1 h.n 0 2 (some 2),h.push (.rw [a,b])):=by
 have ho:allOne [a,b]=true:=by
  have ha:=ha.2
  have hb:=hb.2
  unfold allOne
  cases a<;>first|(cases ha;done)|(cases b<;>first|(cases hb;done)|rfl)
 have hf:fillA (rep [zero] 2) [(0,1,a),(1,1,b)]=some [a,b]:=by
  simp only [fillA,rep,ha.1,hb.1]
  rfl
 simp only [Ef.ev,List.map,hx,hy]
 rw [hf]
 show (bif allOne [a,b] && Nat.beq 2 (2*1) && Nat.ble 2 maxLen then some (AV.slice 1 h.n 0 2 (some 2),h.push (.rw [a,b])) else none)=_
 rw [ho]
 rfl
end
section
variable {X:Type} {E:Nat->Option (Ent X)}
theorem LD (hE:∀f e,E f=some e->e.plain) (hf:E 126=some (.bc mX)) {h:Hp X} {k:Nat} (h0:0 < k) (h1:k<=1000000):
  WF (lim E) 126 [.ae, .int .i64 k] h fun r h'=>Keep NoB h h'/\r= .slice 1 h.n 0 0 none/\OS h' 1 r 0 []:=by
 refine aC hE hf rfl ?_
 simp only [mX,mvE,mvS,clE,efE,ceS,ceE,csE,faE,nlE,ldE,lnE,exE,eV,sL,kI,List.map,getS]
 have hm:(maxLen:Nat)=9223372036854775807:=rfl
 have e1:((k:Int) - (0 - 0))=k:=by omega
 repeat first|refine ZA ?_|refine BP ?_|refine BQ ?_|refine aI ?_|refine aT ?_|refine aS ?_|refine aU ?_
 rw [e1]
 repeat first|refine ZA ?_|refine BW (LC rfl rfl h0 (by omega) (by omega)) ?_|refine BP ?_|refine BQ ?_|refine aI ?_|refine aT ?_|refine aS ?_|refine aU ?_
 exact ⟨Keep.push _ _ _,rfl,rfl,rfl,Nat.zero_lt_one,Nat.lt_succ_self _,_,Hp.aK _ _,by simp,by simp,trivial⟩
structure Q8 (D:Dp X) (a:BC) (Q:R X->Prop) (r:R X):Prop where
 out:match r with| .norm t h=>WB D (.loop a) t h Q|r=>Q r
section
variable {D:Dp X} {a:BC} {Q:R X->Prop} {t:List AV} {h:Hp X}
theorem aI (H:WB D (.loop a) t h Q):Q8 D a Q (.norm t h):=⟨H⟩
theorem aS {k:Nat} (q:Q (.brk k t h)):Q8 D a Q (.brk k t h):=⟨q⟩
theorem dW (H:WB D a t h (Q8 D a Q)):WB D (.loop a) t h Q:=by
 obtain ⟨r,h1,h2⟩:=H.out
 cases r with
 |norm t' h'=>
  obtain ⟨r2,h5,h6⟩:=(show WB D (.loop a) t' h' Q from h2.out).out
  exact ⟨⟨r2,Cf h1 h5,h6⟩⟩
 |bad=>exact absurd rfl h1.1
 |_=>exact ⟨⟨_,qY (by exact True.intro) h1,h2.out⟩⟩
end
theorem NY (hE:∀f e,E f=some e->e.plain) (hf:E 81=some (.bc iY)) (hw:E 126=some (.bc mX)) {h:Hp X} {g:Nat} {tv xv:AV} {a b:Nat} {ts xs:List AV} (hgn:g < h.n) (hg:h.get g=some (.rw [tv,xv])) (ha:RS h 1 tv a ts) (hb:RS h 1 xv b xs) (h0:0 < b) (h1:a+b<=1000000):
  WF (lim E) 81 [.slice 1 g 0 2 (some 2)] h fun r h'=>vO h h' r/\OS h' 1 r (a+b) (ts++xs):=by
 refine aC hE hf rfl ?_
 simp only [iY,mvE,mvS,clE,efE,ceS,ceE,csE,faE,nlE,ldE,lnE,exE,eV,sL,kI,List.map,getS]
 have hm:(maxLen:Nat)=9223372036854775807:=rfl
 repeat first|refine ZA ?_|refine BP ?_|refine BQ ?_|refine aI ?_|refine aT ?_|refine aS ?_|refine aU ?_
 refine dW ?_
 repeat first|refine ZA ?_|refine BV (eG rfl hg rfl) ?_|refine BV (ha.ah (by rfl)) ?_|refine BV (hb.ah (by rfl)) ?_|refine BP ?_|refine BQ ?_|refine aI ?_|refine aT ?_|refine aS ?_|refine aU ?_
 refine dW ?_
 repeat first|refine ZA ?_|refine BV (eG rfl hg rfl) ?_|refine BV (ha.ah (by rfl)) ?_|refine BV (hb.ah (by rfl)) ?_|refine BP ?_|refine BQ ?_|refine aI ?_|refine aT ?_|refine aS ?_|refine aU ?_
 refine dW ?_
 repeat first|refine ZA ?_|refine BP ?_|refine BQ ?_|refine aI ?_|refine aT ?_|refine aS ?_|refine aU ?_
 refine ag rfl ?_
 rw [show (0+(a:Int)+(b:Int))=((a+b:Nat):Int) by omega]
 refine (LD hE hw (k:=a+b) (by omega) h1).mono fun r h2 ⟨k1,e1,o1⟩=> ?_
 have hg2:h2.get g=some (.rw [tv,xv]):=by rw [k1.get g hgn (fun q=>q)];exact hg
 repeat first|refine ZA ?_|refine BP ?_|refine BQ ?_|refine aI ?_|refine aT ?_|refine aS ?_|refine aU ?_
 refine dW ?_
 repeat first|refine ZA ?_|refine BV (eG rfl hg2 rfl) ?_|refine BP ?_|refine BQ ?_|refine aI ?_|refine aT ?_|refine aS ?_|refine aU ?_
 refine aA rfl rfl o1 Nat.zero_lt_one (ha.keep k1 (fun _ _ q=>q)) (by omega) (by omega) fun r2 h3 o2 k2 b2=> ?_
 have hgr:∀k,blk r k->k=h.n:=by rw [e1];exact fun k q=>q
 have k2':Keep NoB h h3:=k1.trans k2 (fun k hk q=>by have:=hgr k q;omega)
 have hg3:h3.get g=some (.rw [tv,xv]):=by rw [k2'.get g hgn (fun q=>q)];exact hg
 repeat first|refine ZA ?_|refine BP ?_|refine BQ ?_|refine aI ?_|refine aT ?_|refine aS ?_|refine aU ?_
 refine dW ?_
 repeat first|refine ZA ?_|refine BV (eG rfl hg3 rfl) ?_|refine BP ?_|refine BQ ?_|refine aI ?_|refine aT ?_|refine aS ?_|refine aU ?_
 refine aA rfl rfl o2 Nat.zero_lt_one (hb.keep k2' (fun _ _ q=>q)) (by omega) (by omega) fun r3 h4 o3 k3 b3=> ?_
 have hb2:∀k,blk r2 k->h.n<=k:=fun k q=>by
  rcases b2 k q with q|q
  ·have:=hgr k q;omega
  ·have:=k1.n;omega
 repeat first|refine ZA ?_|refine BP ?_|refine BQ ?_|refine aI ?_|refine aT ?_|refine aS ?_|refine aU ?_
 refine dW ?_
 repeat first|refine ZA ?_|refine BP ?_|refine BQ ?_|refine aI ?_|refine aT ?_|refine aS ?_|refine aU ?_
 refine ⟨⟨k2'.trans k3 (fun k hk q=>by have:=hb2 k q;omega),fun k q=> ?_⟩, ?_⟩
 ·rcases b3 k q with q|q
  ·exact hb2 k q
  ·have:=k2'.n;omega
 ·rw [Nat.zero_add,List.nil_append] at o3
  exact o3
end
theorem zu {next:Int}:∀{l seen:List Int},Ep next l seen=true↔(∀x∈l,0<=x/\x < next/\x∉seen)/\l.Nodup
 |[],seen=>by
  show (true=true)↔_
  simp
 |y::l,seen=>by
  rw [Cm]
  by_cases h:y < 0\/next<=y\/y∈seen
  ·rw [if_pos h]
   constructor
   ·intro q;cases q
   ·rintro ⟨q,_⟩
    have:=q y (List.mem_cons_self ..)
    rcases h with h|h|h
    ·omega
    ·omega
    ·exact absurd h this.2.2
  ·rw [if_neg h,zu (l:=l),List.nodup_cons]
   have h1:¬y < 0:=fun q=>h (.inl q)
   have h2:¬next<=y:=fun q=>h (.inr (.inl q))
   have h3:y∉seen:=fun q=>h (.inr (.inr q))
   constructor
   ·rintro ⟨q1,q2⟩
    refine ⟨fun x hx=> ?_,fun hy=> ?_,q2⟩
    ·rcases List.mem_cons.1 hx with rfl|hx
     ·exact ⟨by omega,by omega,h3⟩
     ·have:=q1 x hx
      exact ⟨this.1,this.2.1,fun q=>this.2.2 (List.mem_cons_of_mem _ q)⟩
    ·exact (q1 y hy).2.2 (List.mem_cons_self ..)
   ·rintro ⟨q1,q2,q3⟩
    refine ⟨fun x hx=> ?_,q3⟩
    have:=q1 x (List.mem_cons_of_mem _ hx)
    refine ⟨this.1,this.2.1,fun q=> ?_⟩
    rcases List.mem_cons.1 q with rfl|q
    ·exact q2 hx
    ·exact this.2.2 q
structure Jv (l:List Int) (w n:Int):Prop where
 len:l.length<=255
 w0:0<=w
 wn:w < n
 top:n<=16777215
 all:∀x∈l,0<=x/\x < n
 nd:l.Nodup
theorem zx {l:List Int} {w n:Int}:xm l w n=true↔Jv l w n:=by
 unfold xm
 rw [jP,jP,jP,jP,nX,nX,nX]
 simp only [Bool.and_eq_true,Bool.not_eq_true',decide_eq_false_iff_not,decide_eq_true_eq]
 constructor
 ·rintro ⟨h1,h2,h3,h4,h5,h6⟩
  obtain ⟨g1,g2⟩:=zu.1 h6
  exact ⟨Nat.le_of_ble_eq_true h1,by omega,h5,by omega,fun x hx=>⟨(g1 x hx).1,(g1 x hx).2.1⟩,g2⟩
 ·rintro ⟨h1,h2,h3,h4,h5,h6⟩
  exact ⟨dK h1,by omega,by omega,by omega,h3,zu.2 ⟨fun x hx=>⟨(h5 x hx).1,(h5 x hx).2,by simp⟩,h6⟩⟩
def encB (m:Nat):Nat->List UInt8
 |0=>[]
 |k+1=>UInt8.ofNat (m / 2^(8*k))::encB m k
theorem aB (m:Nat):∀k,(encB m k).length=k
 |0=>rfl
 |k+1=>by simp [encB,aB m k]
theorem XY (n:Nat):wr .u8 (n:Int)=((UInt8.ofNat n).toNat:Int):=by
 have e:((UInt8.ofNat n).toNat:Int)=((n % 256:Nat):Int):=by rw [UInt8.toNat_ofNat']
 rw [e]
 simp only [wr,IntKind.wrap,IntKind.signed,IntKind.bits]
 simp
 try omega
theorem jU (m:Nat):∀k,xY m k=(encB m k).map ub
 |0=>rfl
 |k+1=>by
  rw [CE,jU m k,XY]
  rfl
def encI (x:Int):List UInt8:=encB x.toNat 3
def ou (l:List Int) (w n:Int):List UInt8:=UInt8.ofNat l.length::(l++[w,n]).flatMap encI
theorem zA:∀l:List Int,(l.flatMap encI).length=3*l.length
 |[]=>rfl
 |x::l=>by rw [List.flatMap_cons,List.length_append,zA l,List.length_cons,encI,aB];omega
theorem Ha (l:List Int) (w n:Int):(ou l w n).length=1+3*(l.length+2):=by
 rw [ou,List.length_cons,zA,List.length_append]
 simp
 omega
theorem NZ {l:List Int} {i:Nat} (hi:i < l.length):(l.take (i+1)).flatMap encI=(l.take i).flatMap encI++encI (l.getD i 0):=by
 rw [List.take_succ_eq_append_getElem hi,List.flatMap_append,List.getD_eq_getElem?_getD,List.getElem?_eq_getElem hi]
 simp
section
variable {e:En} {t:List AV} {X:Type} {h:Hp X}
theorem lD {x:Od} {k:IntKind} {a:Nat} (hx:x.ev e t= .int k (a:Int)):(Mv.conv .u8 x).ev e t h=some (ub (UInt8.ofNat a)):=by
 simp only [Mv.ev,hx]
 show some (AV.int .u8 (wr .u8 (a:Int)))=_
 rw [XY]
 rfl
theorem kX {x:Od} {b:UInt8} {zero:AV} (hx:x.ev e t=ub b):(Ef.aF 1 1 [zero] [(0,1,x)]).ev e t h=some (.slice 1 h.n 0 1 (some 1),h.push (.rw ([b].map ub))):=Eo hx
theorem vT {c:AV}:OS (h.push (.rw [c])) 1 (.slice 1 h.n 0 1 (some 1)) 1 [c]:=
 ⟨rfl,rfl,Nat.zero_lt_one,Nat.lt_succ_self _,[c],Hp.aK _ _,by simp,by simp,by simp⟩
end
section
variable {X:Type} {E:Nat->Option (Ent X)}
theorem Q9 (n:Int):cellsOf (AV.int .i64 n)=some [AV.int .i64 n]/\(AV.int .i64 n).one=true:=⟨rfl,rfl⟩
structure MfE (E:Nat->Option (Ent X)):Prop where
 right:E 154=some (.bc jG)
 has:E 172=some (.bc ru)
 idx:E 183=some (.bc qg)
 concat:E 81=some (.bc iY)
 grow:E 126=some (.bc mX)
 put:E 66=some (.bc fA)
 clone:E 112=some (.bc dD)
 encode:E 127=some (.bc jH)
theorem N7 (hE:∀f e,E f=some e->e.plain) (T:MfE E) {h:Hp X} {v:AV} {l:List Int} {wal next:Int} (hr:RS h 1 v l.length (l.map iv)) (hlen:l.length<=maxLen) (hm:xm l wal next=false):
  WF (lim E) 127 [LsV v wal next] h fun r h'=>Keep NoB h h'/\r= .tup [.ae, .int .i64 1]:=by
 refine aC hE T.encode rfl ?_
 simp only [jH,mvE,mvS,clE,efE,ceS,ceE,csE,faE,nlE,ldE,lnE,exE,eV,sL,kI,List.map,getS]
 refine AC (AD (vN (iD rfl (V9 hr.one.2)) rfl ?_))
 have hg:(h.push (.rw [v, .int .i64 wal, .int .i64 next])).get h.n=some (.rw [v, .int .i64 wal, .int .i64 next]):=Hp.aK _ _
 have hk:Keep NoB h (h.push (.rw [v, .int .i64 wal, .int .i64 next])):=Keep.push _ _ _
 have hr:=hr.keep hk (fun _ _ q=>q)
 generalize h.push (.rw [v, .int .i64 wal, .int .i64 next])=h1 at hg hk hr
 generalize h.n=g at hg
 simp only [setS]
 repeat first|refine ZA ?_|refine BV (xJ rfl hg (Nat.le_refl _)) ?_|refine BP ?_|refine BQ ?_
 refine ag rfl ((zt hE T.right T.has T.idx hr hlen).mono fun r h2 ⟨k2,e2⟩=> ?_)
 subst e2
 rw [hm]
 repeat first|refine ZA ?_|refine BP ?_|refine BQ ?_
 exact ⟨hk.trans k2 (fun _ _ q=>q),rfl⟩
set_option maxHeartbeats 4000000 in
theorem N8 (hE:∀f e,E f=some e->e.plain) (T:MfE E) {h:Hp X} {v:AV} {l:List Int} {wal next:Int} (hr:RS h 1 v l.length (l.map iv)) (hm:Jv l wal next):
  WF (lim E) 127 [LsV v wal next] h fun r h'=>∃o,r= .tup [o, .int .i64 0]/\vO h h' o/\OS h' 1 o (ou l wal next).length ((ou l wal next).map ub):=by
 refine aC hE T.encode rfl ?_
 simp only [jH,mvE,mvS,clE,efE,ceS,ceE,csE,faE,nlE,ldE,lnE,exE,eV,sL,kI,List.map,getS]
 have hlen:=hm.len
 have hmx:(maxLen:Nat)=9223372036854775807:=rfl
 refine AC (AD (vN (iD rfl (V9 hr.one.2)) rfl ?_))
 have hg:(h.push (.rw [v, .int .i64 wal, .int .i64 next])).get h.n=some (.rw [v, .int .i64 wal, .int .i64 next]):=Hp.aK _ _
 have hk:Keep NoB h (h.push (.rw [v, .int .i64 wal, .int .i64 next])):=Keep.push _ _ _
 have hr:=hr.keep hk (fun _ _ q=>q)
 have hgn:h.n < (h.push (.rw [v, .int .i64 wal, .int .i64 next])).n:=Nat.lt_succ_self _
 generalize h.push (.rw [v, .int .i64 wal, .int .i64 next])=h1 at hg hk hr hgn
 generalize hgg:h.n=g at hg hgn
 simp only [setS]
 repeat first|refine ZA ?_|refine BV (xJ rfl hg (Nat.le_refl _)) ?_|refine BP ?_|refine BQ ?_
 refine ag rfl ((zt hE T.right T.has T.idx hr (by omega)).mono fun r h2 ⟨k2,e2⟩=> ?_)
 subst e2
 rw [zx.2 hm]
 have hr:=hr.keep k2 (fun _ _ q=>q)
 have hg2:h2.get g=some (.rw [v, .int .i64 wal, .int .i64 next]):=by rw [k2.get g hgn (fun q=>q)];exact hg
 have n2:=k2.n
 repeat first|refine ZA ?_|refine BV (eG rfl hg2 rfl) ?_|refine BV (hr.ah (by rfl)) ?_|refine BV (lD rfl) ?_|refine BW (kX rfl) ?_|refine BP ?_|refine BQ ?_
 obtain ⟨h3,hh3⟩:∃h3:Hp X,h3=h2.push (.rw ([UInt8.ofNat l.length].map ub)):=⟨_,rfl⟩
 have k3:Keep NoB h2 h3:=by rw [hh3];exact Keep.push _ _ _
 have n3:h3.n=h2.n+1:=by rw [hh3];rfl
 have o3:OS h3 1 (.slice 1 h2.n 0 1 (some 1)) 1 ([UInt8.ofNat l.length].map ub):=by rw [hh3];exact vT
 have hg3:h3.get g=some (.rw [v, .int .i64 wal, .int .i64 next]):=by rw [k3.get g (by omega) (fun q=>q)];exact hg2
 have hr:=hr.keep k3 (fun _ _ q=>q)
 refine aJ hh3.symm ?_
 repeat first|refine ZA ?_|refine BV (eG rfl hg3 rfl) ?_|refine BW (uH rfl rfl (Q9 _) (Q9 _)) ?_|refine BP ?_|refine BQ ?_
 obtain ⟨h4,hh4⟩:∃h4:Hp X,h4=h3.push (.rw [.int .i64 wal, .int .i64 next]):=⟨_,rfl⟩
 have k4:Keep NoB h3 h4:=by rw [hh4];exact Keep.push _ _ _
 have n4:h4.n=h3.n+1:=by rw [hh4];rfl
 have x4:RS h4 1 (.slice 1 h3.n 0 2 (some 2)) 2 [.int .i64 wal, .int .i64 next]:=by rw [hh4];exact bH rfl
 have hr:=hr.keep k4 (fun _ _ q=>q)
 refine aJ hh4.symm ?_
 repeat first|refine ZA ?_|refine BW (uH rfl rfl hr.one x4.one) ?_|refine BP ?_|refine BQ ?_
 obtain ⟨h5,hh5⟩:∃h5:Hp X,h5=h4.push (.rw [v, .slice 1 h3.n 0 2 (some 2)]):=⟨_,rfl⟩
 have k5:Keep NoB h4 h5:=by rw [hh5];exact Keep.push _ _ _
 have g5:h5.get h4.n=some (.rw [v, .slice 1 h3.n 0 2 (some 2)]):=by rw [hh5];exact Hp.aK _ _
 have n5:h5.n=h4.n+1:=by rw [hh5];rfl
 refine aJ hh5.symm ?_
 refine nY rfl ((NY hE T.concat T.grow (by omega) g5 (hr.keep k5 (fun _ _ q=>q)) (x4.keep k5 (fun _ _ q=>q)) (by omega) (by omega)).mono fun cs h6 ⟨⟨k6,b6⟩,o6⟩=> ?_)
 have o6':OS h6 1 cs (l++[wal,next]).length ((l++[wal,next]).map iv):=by
  rw [List.length_append,List.map_append]
  exact o6
 have hall:∀x∈l++[wal,next],0<=x/\x<=16777215:=by
  intro x hx
  have:=hm.w0;have:=hm.wn;have:=hm.top
  rcases List.mem_append.1 hx with hx|hx
  ·have:=hm.all x hx;omega
  ·simp at hx;omega
 have hl2:(l++[wal,next]).length=l.length+2:=by simp
 have hfin:(ou l wal next)=UInt8.ofNat l.length::(l++[wal,next]).flatMap encI:=rfl
 generalize l++[wal,next]=L at o6' hall hl2 hfin
 have k26:Keep NoB h2 h6:=((k3.trans k4 (fun _ _ q=>q)).trans k5 (fun _ _ q=>q)).trans k6 (fun _ _ q=>q)
 have o36:=((o3.keep k4 (fun _ _ q=>q)).keep k5 (fun _ _ q=>q)).keep k6 (fun _ _ q=>q)
 repeat first|refine ZA ?_|refine BV (o6'.rs.ah (by rfl)) ?_|refine BP ?_|refine BQ ?_
 refine aQ (fun n t h'=>∃(i:Nat) (bv s5 s10:AV),i<=L.length/\n=L.length - i/\Keep NoB h2 h'/\OS h' 1 cs L.length (L.map iv)/\(∀k,blk bv k->h2.n<=k/\¬blk cs k)/\OS h' 1 bv (1+3*i) ((UInt8.ofNat l.length::(L.take i).flatMap encI).map ub)/\t=[LsV v wal next, .ptr g 0, .ae, .int .i64 0,bv,s5, .bool false,cs, .int .i64 L.length, .int .i64 i,s10]) ?_ L.length _ _
  ⟨0,_,_,_,by omega,by omega,k26,o6', ?_,o36,rfl⟩
 case refine_2=>
  intro k q
  have q:k=h2.n:=q
  refine ⟨by omega,fun q2=> ?_⟩
  have:=b6 k q2
  omega
 rintro n t h' ⟨i,bv,s5,s10,hi,hn,hk',oc,hb,ob,rfl⟩
 by_cases hlt:(i:Int) < L.length
 ·obtain ⟨gg,o,ha,hl⟩:=oc.rs.at1 (i:=i) (by omega) hlt
  rw [zg (i:=i) (by omega) hlt] at hl
  rw [Int.toNat_natCast] at hl
  have hft:=NZ (l:=L) (i:=i) (by omega)
  have hy:=hall (L.getD i 0) (by rw [List.getD_eq_getElem?_getD,List.getElem?_eq_getElem (by omega)];exact List.getElem_mem _)
  generalize L.getD i 0=y at hl hft hy
  obtain ⟨m,rfl⟩:=Int.eq_ofNat_of_zero_le hy.1
  repeat first|refine ZA ?_|refine BV (ha rfl rfl) ?_|refine BV (hl rfl) ?_|refine BV (cO rfl (by omega)) ?_|refine BP ?_|refine BQ ?_
  refine ag rfl ((qh hE T.put T.clone ob.rs ob.vP (by omega) (m:=m) (size:=3) (k:=3) (by decide)).mono fun r h7 ⟨⟨k7,b7⟩,o7⟩=> ?_)
  repeat first|refine ZA ?_|refine BP ?_|refine BQ ?_
  rw [show ((i:Int)+1)=((i+1:Nat):Int) by omega]
  refine aj (n - 1) (by omega) ⟨i+1,_,_,_,by omega,by omega,hk'.trans k7 (fun _ _ q=>q),oc.keep k7 (fun _ _ q=>q),fun k q=>⟨?_,fun q2=> ?_⟩, ?_,rfl⟩
  ·have:=b7 k q;have:=hk'.n;omega
  ·have:=b7 k q;have:=oc.lt k q2;omega
  ·rw [hft,show 1+3*(i+1)=1+3*i+3 by omega,<-List.cons_append,List.map_append]
   rw [jU] at o7
   exact o7
 ·repeat first|refine ZA ?_|refine BP ?_|refine BQ ?_
  have e:i=L.length:=by omega
  subst e
  rw [List.take_length] at ob
  refine ⟨bv,rfl,⟨(hk.trans k2 (fun _ _ q=>q)).trans hk' (fun _ _ q=>q),fun k q=> ?_⟩, ?_⟩
  ·have:=(hb k q).1;have:=hk.n;have:=k2.n;omega
  ·rw [hfin,List.length_cons,zA,Nat.add_comm]
   exact ob
end
def oz:BF:=⟨8,[0,2,4],(.seq (.reg [mvS 1 (.mv (.const .ae))]) (.seq (.seq (.reg [ceS 3 0,mvS 2 (.bin .eql .slice (eV 3) (.const .ae))]) (.cond (sL 2) (.seq (.reg [mvS 1 (.mv (.const .ae))]) .ret) .skip)) (.seq (.reg [efE 5 (.aF 1 0 [(.int .i64 0)] []),ceS 6 0,efE 7 (.append 1 8 (eV 5) (eV 6)),csE 1 7]) .ret))),[.slot (sL 1)]⟩
def jI:BF:=⟨67,[0,2,3,4,5,6,8,9,24,29,64],(.seq (.reg [.mk none (.slot 1) (.eff (.alloc [.ae,(.int .i64 0),(.int .i64 0)])),mvS 2 (.mv (.const (.int .i64 0)))]) (.seq (.seq (.reg [ceS 10 0,lnE 11 10,mvE 12 (.bin .lss .no (eV 11) (.const (.int .i64 1))),ceE 13 12, .mk (some ((eV 13),false)) (.env 14) (.mov (.mv (sL 0))), .mk (some ((eV 13),false)) (.env 15) (.mov (.ah (eV 14))), .mk (some ((eV 13),false)) (.env 16) (.mov (.mv (sL 0))), .mk (some ((eV 13),false)) (.env 17) (.mov (.aP 1 (eV 16) (.const (.int .i64 0)))), .mk (some ((eV 13),false)) (.env 18) (.mov (.ld1 (eV 17))), .mk (some ((eV 13),false)) (.env 19) (.mov (.conv .i64 (eV 18))), .mk (some ((eV 13),false)) (.env 20) (.mov (.bin .add .no (eV 19) (.const (.int .i64 2)))), .mk (some ((eV 13),false)) (.env 21) (.mov (.bin .mul .no (.const (.int .i64 3)) (eV 20))), .mk (some ((eV 13),false)) (.env 22) (.mov (.bin .add .no (.const (.int .i64 1)) (eV 21))), .mk (some ((eV 13),false)) (.env 23) (.mov (.bin .neq .no (eV 15) (eV 22))),mvS 8 (.pick (eV 13) (.const (.bool true)) (eV 23))]) (.cond (sL 8) (.seq (.reg [mvE 25 (.bld [.ae,(.int .i64 0),(.int .i64 0)] []), .mk none .none (.eff (.store 3 (sL 1) (eV 25))),mvS 2 (.mv (.const (.int .i64 12)))]) .ret) .skip)) (.seq (.reg [mvS 3 (.mv (.const .ae))]) (.seq (.seq (.reg [mvS 4 (.mv (.const (.int .i64 1)))]) (.block 0 (.loop (.seq (.seq (.reg [ceS 26 4,ceS 27 0,lnE 28 27,mvS 9 (.bin .lss .no (eV 26) (eV 28))]) (.cond (sL 9) .skip (.exit 0))) (.seq (.block 1 (.seq (.reg [ceS 33 0,ceS 34 4,mvE 35 (.sl 1 (eV 33) (some (eV 34)) none none),clE 36 115 [eV 35,(.const (.int .i64 3))],ceE 32 36,exE 37 0 32,exE 38 1 32,csE 5 37,ceE 7 38]) (.reg [ceS 39 3,ceS 40 5,mvE 41 (.conv .i64 (eV 40)),efE 42 (.aF 1 1 [(.int .i64 0)] [(0,1,(eV 41))]),efE 43 (.append 1 8 (eV 39) (eV 42)),csE 3 43]))) (.reg [ceS 30 4,mvE 31 (.bin .add .no (eV 30) (.const (.int .i64 3))),csE 4 31])))))) (.seq (.reg [ceS 44 0,mvE 45 (.aP 1 (eV 44) (.const (.int .i64 0))),ldE 46 45,mvE 47 (.conv .i64 (eV 46)),csE 6 47]) (.seq (.iC [(ceS 48 3,[]),(ceS 49 6,[]),(mvE 50 (.sl 1 (eV 48) none (some (eV 49)) none),[]),(ceS 52 3,[]),(ceS 53 6,[]),(mvE 54 (.aP 1 (eV 52) (eV 53)),[]),(ldE 55 54,[]),(ceS 56 3,[]),(ceS 57 6,[]),(mvE 58 (.bin .add .no (eV 57) (.const (.int .i64 1))),[]),(mvE 59 (.aP 1 (eV 56) (eV 58)),[]),(ldE 60 59,[]),(.mk none (.slot 7) (.eff (.alloc [.ae,(.int .i64 0),(.int .i64 0)])),[0,1,2,3,4,5,6,7,8,9,10,11]),(clE 51 153 [eV 50],[3,4,5,6,7,8,9,10,11,12]),(mvE 61 (.bld [.ae,(.int .i64 0),(.int .i64 0)] [(0,1,(eV 51)),(1,1,(eV 55)),(2,1,(eV 60))]),[]),(.mk none .none (.eff (.store 3 (sL 7) (eV 61))),[])]) (.seq (.seq (.reg [mvE 62 (.ldn 3 (sL 7)),clE 63 154 [eV 62],mvS 10 (.jd (eV 63))]) (.cond (sL 10) (.seq (.reg [mvE 65 (.bld [.ae,(.int .i64 0),(.int .i64 0)] []), .mk none .none (.eff (.store 3 (sL 1) (eV 65))),mvS 2 (.mv (.const (.int .i64 12)))]) .ret) .skip)) (.seq (.reg [mvE 66 (.ldn 3 (sL 7)), .mk none .none (.eff (.store 3 (sL 1) (eV 66))),mvS 2 (.mv (.const (.int .i64 0)))]) .ret)))))))),[.fG 3 (sL 1), .slot (sL 2)]⟩
mutual
theorem vU:∀a:AV,eqA a a=true
 | .int ..=>by simp [eqA]
 | .bool ..=>by simp [eqA]
 | .str ..=>by simp [eqA]
 | .ptr ..=>by simp [eqA]
 | .bU=>rfl
 | .slice ..=>by simp [eqA]
 | .ae=>rfl
 | .bV=>rfl
 | .meth _ fs=>by simp [eqA,iZ fs]
 | .func _ cs=>by simp [eqA,iZ cs]
 | .qJ=>rfl
 | .iface _ v=>by simp [eqA,vU v]
 | .FH=>rfl
 | .agg l=>by simp [eqA,iZ l]
 | .tup l=>by simp [eqA,iZ l]
 | .bot=>rfl
theorem iZ:∀l:List AV,eqAs l l=true
 |[]=>rfl
 |a::l=>by simp [eqAs,vU a,iZ l]
end
section
variable {X:Type} {D:Dp X} {h:Hp X} {past:List (Pa X)} {r:List Nat} {q:Nat}
structure Chk (h:Hp X) (past:List (Pa X)) (r:List Nat):Prop where
 out:chkAll h past r=true
theorem aW:Chk h past []:=⟨rfl⟩
theorem aZ {m:Mv} {e:En} {t:List AV} {v:AV} (hp:past[q]?=some (.mov m e t v)) (hm:m.ev e t h=some v) (H:Chk h past r):Chk h past (q::r):=⟨by
 simp only [chkAll,hp,Pa.ok,hm,vU,H.out,Bool.and_self]⟩
theorem Ew {g:Nat} {l:List AV} (hp:past[q]?=some (.alc g l)) (hg:h.get g=some (.rw l)) (H:Chk h past r):Chk h past (q::r):=⟨by simp only [chkAll,hp,Pa.ok,hg,iZ,H.out,Bool.and_self]⟩
section
variable {l:Dr} {e:En} {t:List AV} {Q:R X->Prop} {chk:List Nat}
theorem zB {k:Nat} {cs:List AV} (hc:Chk (h.push (.rw cs)) past chk) (H:WD D l (past++[.alc h.n cs]) e (setS t k (.ptr h.n 0)) (h.push (.rw cs)) Q):WD D ((.mk none (.slot k) (.eff (.alloc cs)),chk)::l) past e t h Q:=by
 obtain ⟨t',h',h1,h2⟩:=H.out
 refine ⟨⟨t',h', ?_,h2⟩⟩
 have hp:paOf (.eff (.alloc cs)) e t h (.ptr h.n 0) (h.push (.rw cs))=some (.alc h.n cs):=by
  show (match (h.push (.rw cs)).get h.n,some ((fun g=>AV.ptr g 0),cs) with|some (.rw l),some (_,l')=>bif eqAs l l' then some (Pa.alc h.n l) else none|_,_=>none)=_
  rw [Hp.aK]
  simp [iZ]
 have ho:(Op1.eff (.alloc cs)).run D e t h= .ret (.ptr h.n 0) (h.push (.rw cs)):=rfl
 simp only [drGo,gdv,St1.g,St1.o,St1.d,ho,hp,hc.out,cond_true]
 exact h1
theorem Jw {n:Nat} {a x:Od} {v:AV} {h':Hp X} (hm:(Ef.store n a x).ev e t h=some (v,h')) (H:WD D l (past++[.skip]) e t h' Q):WD D ((.mk none .none (.eff (.store n a x)),[])::l) past e t h Q:=by
 obtain ⟨t',h'',h1,h2⟩:=H.out
 refine ⟨⟨t',h'', ?_,h2⟩⟩
 have hp:paOf (.eff (.store n a x)) e t h v h'=some .skip:=rfl
 have ho:(Op1.eff (.store n a x)).run D e t h= .ret v h':=by simp only [Op1.run,hm]
 simp only [drGo,gdv,St1.g,St1.o,St1.d,ho,hp,chkAll,cond_true]
 exact h1
theorem mY {h':Hp X} (he:h=h') (H:WD D l past e t h' Q):WD D l past e t h Q:=by rw [he];exact H
theorem bF {k f:Nat} {xs:List Od} {args:List AV} (ha:(xs.map fun x=>x.ev e t)=args) (H:WF D f args h fun v h'=>Chk h' past chk/\WD D l (past++[.skip]) ((k,v)::e) t h' Q):WD D ((.mk none (.env k) (.call f xs),chk)::l) past e t h Q:=
 NR ha (H.mono fun v h' ⟨q1,q2⟩=>⟨q1.out,q2⟩)
end
theorem RS.at2 {n:Nat} {v:AV} {cells:List AV} (a:RS h 1 v n cells) {i:Nat} (hi:i < n):∃g o,(∀{hh:Hp X} {e:En} {t:List AV} {x y:Od} {k:IntKind},x.ev e t=v->y.ev e t= .int k (i:Int)->(Mv.aP 1 x y).ev e t hh=some (.ptr g o))/\
  ∀{S:Nat->Prop} {hh:Hp X},Keep S h hh->(∀k,blk v k->¬S k)->∀{e:En} {t:List AV} {x:Od},x.ev e t= .ptr g o->(Mv.ld1 x).ev e t hh=cells[i]?:=by
 cases v<;>first|exact a.elim|skip
 ·rename_i z g o m cap
  obtain ⟨rfl,rfl,hg,l,hl,hle,rfl⟩:=a
  refine ⟨g,o+i*1,fun {hh e t x y k} hx hy=> ?_,fun {S hh} hk hs {e t x} hx=> ?_⟩
  ·simp only [Mv.ev,hx,hy,nOf]
   rw [show Nat.blt i m=true by rw [Nat.blt_eq];exact hi]
   rfl
  ·simp only [Mv.ev,hx,AV.onPtr]
   rw [lu (hk.get g hg (hs g rfl)),hl]
   simp only
   rw [yC]
   rw [List.getElem?_take_of_lt (by omega),List.getElem?_drop,Nat.mul_one]
 ·obtain ⟨rfl,_⟩:=a;omega
 ·obtain ⟨rfl,_⟩:=a;omega
end
def nums:Nat->List UInt8->List Int
 |0,_=>[]
 |k+1,bs=>(be (bs.take 3):Int)::nums k (bs.drop 3)
theorem He:∀(k:Nat) (bs:List UInt8),(nums k bs).length=k
 |0,_=>rfl
 |k+1,bs=>by simp [nums,He k]
theorem LG:∀{k:Nat} {bs:List UInt8} {i:Nat},i < k->(nums k bs)[i]?=some (be ((bs.drop (3*i)).take 3):Int)
 |0,_,_,h=>by omega
 |k+1,bs,0,_=>by simp [nums]
 |k+1,bs,i+1,h=>by
  rw [nums,List.getElem?_cons_succ,LG (by omega),List.drop_drop]
  congr 5
  omega
theorem N9 {k:Nat} {bs:List UInt8} {i:Nat} (h:i < k):(nums k bs).take (i+1)=(nums k bs).take i++[(be ((bs.drop (3*i)).take 3):Int)]:=by
 rw [List.take_add_one,LG h]
 rfl
noncomputable def Hf (bs:List UInt8):Option (List Int×Int×Int):=
 if bs.length < 1\/bs.length≠1+3*((bs.getD 0 0).toNat+2) then none else
 bif xm ((nums ((bs.getD 0 0).toNat+2) (bs.drop 1)).take (bs.getD 0 0).toNat) ((nums ((bs.getD 0 0).toNat+2) (bs.drop 1)).getD (bs.getD 0 0).toNat 0) ((nums ((bs.getD 0 0).toNat+2) (bs.drop 1)).getD ((bs.getD 0 0).toNat+1) 0)
 then some ((nums ((bs.getD 0 0).toNat+2) (bs.drop 1)).take (bs.getD 0 0).toNat,(nums ((bs.getD 0 0).toNat+2) (bs.drop 1)).getD (bs.getD 0 0).toNat 0,(nums ((bs.getD 0 0).toNat+2) (bs.drop 1)).getD ((bs.getD 0 0).toNat+1) 0) else none
section
variable {X:Type} {E:Nat->Option (Ent X)}
theorem Oa (hE:∀f e,E f=some e->e.plain) (hf:E 153=some (.bc oz)) {h:Hp X} {v:AV} {n:Nat} {cells:List AV} (hr:RS h 1 v n cells) (hv:v≠ .bV) (hn:n<=1000000):
  WF (lim E) 153 [v] h fun r h'=>vO h h' r/\OS h' 1 r n cells:=by
 refine aC hE hf rfl ?_
 simp only [oz,mvE,mvS,clE,efE,ceS,ceE,csE,faE,nlE,ldE,lnE,exE,eV,sL,kI,List.map,getS]
 rcases aaJ hv hr with ⟨rfl,rfl,rfl,hc⟩|⟨hne,hc⟩
 ·repeat first|refine ZA ?_|refine BV (hc (by rfl)) ?_|refine BP ?_|refine BQ ?_
  exact ⟨⟨Keep.refl _ _,fun g hg=>hg.elim⟩,rfl,rfl⟩
 ·repeat first|refine ZA ?_|refine BV (hc (by rfl)) ?_|refine BW QU ?_|refine BP ?_|refine BQ ?_
  have hm:(maxLen:Nat)=9223372036854775807:=rfl
  refine aA (n:=0) (m:=n) (cells:=[]) rfl rfl (GR Nat.zero_lt_one) Nat.zero_lt_one (hr.keep (Keep.push NoB _ _) (fun _ _ q=>q)) (by omega) (by omega) fun v' h' h1 h2 h3=> ?_
  repeat first|refine ZA ?_|refine BP ?_|refine BQ ?_
  refine ⟨⟨(Keep.push NoB _ _).trans h2 (fun g hg hb=> ?_),fun g hg=> ?_⟩,by rw [Nat.zero_add] at h1;exact h1⟩
  ·cases hb;omega
  ·rcases h3 g hg with hb|hb
   ·cases hb;exact Nat.le_refl _
   ·exact Nat.le_trans (Nat.le_succ _) hb
structure MfD (E:Nat->Option (Ent X)):Prop where
 right:E 154=some (.bc jG)
 has:E 172=some (.bc ru)
 idx:E 183=some (.bc qg)
 get:E 115=some (.bc dU)
 Zn:E 153=some (.bc oz)
 decode:E 118=some (.bc jI)
def Ey (h:Hp X) (o:Option (List Int×Int×Int)) (r:AV) (h':Hp X):Prop:=Keep NoB h h'/\match o with
 |none=>r= .tup [LsV .ae 0 0, .int .i64 12]
 |some (ts,w,n)=>∃tv,r= .tup [LsV tv w n, .int .i64 0]/\OS h' 1 tv ts.length (ts.map iv)/\∀k,blk tv k->h.n<=k
theorem ry {n g o:Nat} {x y:Od} {t:List AV} {h:Hp X} {l:List AV} {v:AV} (hx:x.ev [] t= .ptr g o) (hg:h.get g=some (.rw l)) (ho:o+n<=l.length) (hy:y.ev [] t=v):resV t h [.fG n x, .slot y]=some [.agg ((l.drop o).take n),v]:=by
 unfold resV
 rw [show (Rs.fG n x).ev t h=some (.agg ((l.drop o).take n)) from xJ hx hg ho]
 unfold resV
 rw [show (Rs.slot y).ev t h=some v from congrArg some hy]
 rfl
theorem decode_bad (hE:∀f e,E f=some e->e.plain) (T:MfD E) {h:Hp X} {v:AV} {bs:List UInt8} (hr:RS h 1 v bs.length (bs.map ub)) (hb:bs.length<=1099511627776) (hx:bs.length < 1\/bs.length≠1+3*((bs.getD 0 0).toNat+2)):
  WF (lim E) 118 [v] h fun r h'=>Ey h none r h':=by
 refine aC hE T.decode rfl ?_
 simp only [jI,mvE,mvS,clE,efE,ceS,ceE,csE,faE,nlE,ldE,lnE,exE,eV,sL,kI,List.map,getS]
 have hg:(h.push (.rw [.ae, .int .i64 0, .int .i64 0])).get h.n=some (.rw [.ae, .int .i64 0, .int .i64 0]):=Hp.aK _ _
 have hk:Keep NoB h (h.push (.rw [.ae, .int .i64 0, .int .i64 0])):=Keep.push _ _ _
 have hr:=hr.keep hk (fun _ _ q=>q)
 have fin:Keep NoB h ((h.push (.rw [.ae, .int .i64 0, .int .i64 0])).put h.n (.rw (spl 0 [.ae, .int .i64 0, .int .i64 0] [.ae, .int .i64 0, .int .i64 0]))):=hk.trans (Keep.put (S:=az h.n) _ _ _ rfl) (fun k hk q=>by have:k=h.n:=q;omega)
 by_cases h1:bs.length < 1
 ·repeat first|refine ZA ?_|refine BV (hr.ah (by rfl)) ?_|refine BW (lC rfl rfl rfl rfl hg (Nat.le_refl _)) ?_|refine BP ?_|refine BQ ?_
  exact AT (ry rfl (Hp.bW _ _ _) (Nat.le_refl _) rfl) ⟨fin,rfl⟩
 ·have h2:bs.length≠1+3*((bs.getD 0 0).toNat+2):=by rcases hx with q|q;exact absurd q h1;exact q
  obtain ⟨gg,o,ha,hl⟩:=hr.at2 (i:=0) (by omega)
  have hl:= @hl NoB _ (Keep.refl _ _) (fun _ _ q=>q)
  have hu:=QY (l:=bs) (i:=0) (by omega) (by omega)
  rw [show ((0:Int).toNat)=0 from rfl] at hu
  rw [hu] at hl
  have hc:=(bs.getD 0 0).toNat_lt
  generalize (bs.getD 0 0).toNat=c at h2 hl hc
  repeat first|refine ZA ?_|refine BV (hr.ah (by rfl)) ?_|refine BV (ha rfl rfl) ?_|refine BV (hl rfl) ?_|refine BV (cZ rfl (by omega)) ?_|refine BW (lC rfl rfl rfl rfl hg (Nat.le_refl _)) ?_|refine BP ?_|refine BQ ?_
  exact AT (ry rfl (Hp.bW _ _ _) (Nat.le_refl _) rfl) ⟨fin,rfl⟩
set_option maxHeartbeats 4000000 in
theorem Oc (hE:∀f e,E f=some e->e.plain) (T:MfD E) {h:Hp X} {v:AV} {bs:List UInt8} (hr:RS h 1 v bs.length (bs.map ub)) (hb:bs.length<=1099511627776) (hx:¬(bs.length < 1\/bs.length≠1+3*((bs.getD 0 0).toNat+2))):
  WF (lim E) 118 [v] h fun r h'=>Ey h (Hf bs) r h':=by
 have hdec:Hf bs=bif xm ((nums ((bs.getD 0 0).toNat+2) (bs.drop 1)).take (bs.getD 0 0).toNat) ((nums ((bs.getD 0 0).toNat+2) (bs.drop 1)).getD (bs.getD 0 0).toNat 0) ((nums ((bs.getD 0 0).toNat+2) (bs.drop 1)).getD ((bs.getD 0 0).toNat+1) 0)
  then some ((nums ((bs.getD 0 0).toNat+2) (bs.drop 1)).take (bs.getD 0 0).toNat,(nums ((bs.getD 0 0).toNat+2) (bs.drop 1)).getD (bs.getD 0 0).toNat 0,(nums ((bs.getD 0 0).toNat+2) (bs.drop 1)).getD ((bs.getD 0 0).toNat+1) 0) else none:=by
  unfold Hf;rw [if_neg hx]
 rw [hdec]
 refine aC hE T.decode rfl ?_
 simp only [jI,mvE,mvS,clE,efE,ceS,ceE,csE,faE,nlE,ldE,lnE,exE,eV,sL,kI,List.map,getS]
 have hmx:(maxLen:Nat)=9223372036854775807:=rfl
 have hg:(h.push (.rw [.ae, .int .i64 0, .int .i64 0])).get h.n=some (.rw [.ae, .int .i64 0, .int .i64 0]):=Hp.aK _ _
 have hk:Keep NoB h (h.push (.rw [.ae, .int .i64 0, .int .i64 0])):=Keep.push _ _ _
 have hr1:=hr.keep hk (fun _ _ q=>q)
 have h1n:(h.push (.rw [.ae, .int .i64 0, .int .i64 0]):Hp X).n=h.n+1:=rfl
 have hl1:¬bs.length < 1:=fun q=>hx (.inl q)
 have hl2:bs.length=1+3*((bs.getD 0 0).toNat+2):=Decidable.byContradiction fun q=>hx (.inr q)
 obtain ⟨gg,o,ha,hl⟩:=hr1.at2 (i:=0) (by omega)
 have hu:=QY (l:=bs) (i:=0) (by omega) (by omega)
 rw [show ((0:Int).toNat)=0 from rfl] at hu
 rw [hu] at hl
 have hc:=(bs.getD 0 0).toNat_lt
 generalize (bs.getD 0 0).toNat=c at hl2 hl hc
 have hlz:= @hl NoB _ (Keep.refl _ _) (fun _ _ q=>q)
 repeat first|refine ZI ?_|refine CB (hr1.ah (by rfl)) ?_|refine CB (ha rfl rfl) ?_|refine CB (hlz rfl) ?_|refine CB (cZ rfl (by omega)) ?_|refine BV (hr1.ah (by rfl)) ?_|refine BV (ha rfl rfl) ?_|refine BV (hlz rfl) ?_|refine BV (cZ rfl (by omega)) ?_|refine BP ?_|refine BQ ?_|refine CC ?_
 have hLl:=He (c+2) (bs.drop 1)
 have hLt:∀i,i < c+2->(nums (c+2) (bs.drop 1)).take (i+1)=(nums (c+2) (bs.drop 1)).take i++[(be ((bs.drop (1+3*i)).take 3):Int)]:=fun i hi=>by
  rw [N9 hi,List.drop_drop]
 generalize nums (c+2) (bs.drop 1)=L at hLl hLt
 generalize hh1:h.push (.rw [.ae, .int .i64 0, .int .i64 0])=h1 at hg hk hr1 h1n hl
 refine aQ (fun n t h'=>∃(i:Nat) (nv s5 s6 s7 s8 s9 s10:AV),i<=c+2/\n=c+2 - i/\Keep NoB h1 h'/\OS h' 1 nv i ((L.take i).map iv)/\(∀k,blk nv k->h1.n<=k)/\t=[v, .ptr h.n 0, .int .i64 0,nv, .int .i64 (1+3*i:Nat),s5,s6,s7,s8,s9,s10]) ?_ (c+2) _ _
  ⟨0, .ae,_,_,_,_,_,_,by omega,by omega,Keep.refl _ _,⟨rfl,rfl⟩,(fun k q=>q.elim),rfl⟩
 rintro n t h' ⟨i,nv,s5,s6,s7,s8,s9,s10,hi,hn,hk',ho,hlo,rfl⟩
 have hr':=hr1.up hk'
 by_cases hlt:i < c+2
 ·obtain ⟨v2,q1,q2,q3,q4⟩:=hr'.bytes (lo:=1+3*i) (hi:=bs.length) (by omega) (Nat.le_refl _)
  have e1:(bs.drop (1+3*i)).take (bs.length - (1+3*i))=bs.drop (1+3*i):=List.take_of_length_le (by rw [List.length_drop];exact Nat.le_refl _)
  rw [e1] at q1
  have hb3:=be3 (bs.drop (1+3*i))
  repeat first|refine ZI ?_|refine CB (hr'.ah (by rfl)) ?_|refine CB (q4 (by rfl) (.inr ⟨_,_,rfl,rfl⟩) (.inl ⟨rfl,rfl⟩)) ?_|refine BV (hr'.ah (by rfl)) ?_|refine BV (q4 (by rfl) (.inr ⟨_,_,rfl,rfl⟩) (.inl ⟨rfl,rfl⟩)) ?_|refine BP ?_|refine BQ ?_|refine CC ?_
  refine ag rfl ((rq hE T.get q1 (n:=3) (by omega) (by rw [List.length_drop];omega)).mono fun r h2 ⟨x1,x2⟩=> ?_)
  subst x1 x2
  repeat first|refine ZI ?_|refine CB (cZ rfl (by omega)) ?_|refine BV (cZ rfl (by omega)) ?_|refine BW (Eo rfl) ?_|refine BP ?_|refine BQ ?_|refine CC ?_
  refine aA rfl rfl (ho.up (Keep.push NoB h2 _)) Nat.zero_lt_one (bH (l:=[_]) rfl) (by omega) (by omega) fun nv' h3 a1 a2 a3=> ?_
  repeat first|refine ZA ?_|refine BP ?_|refine BQ ?_
  have k3:Keep NoB h1 h3:=(hk'.and (Keep.push NoB h2 _)).own a2 hlo
  rw [show ((1+3*i:Nat):Int)+3=((1+3*(i+1):Nat):Int) by omega]
  refine aj (n - 1) (by omega) ⟨i+1,nv',_,_,_,_,_,_,by omega,by omega,k3, ?_,fun k hk2=> ?_,rfl⟩
  ·rw [hLt i hlt,List.map_append]
   exact a1
  ·rcases a3 k hk2 with q|q
   ·exact hlo k q
   ·have:=hk'.n;simp only [bJ] at q;omega
 ·have hic:i=c+2:=by omega
  subst hic
  have eL:L.take (c+2)=L:=List.take_of_length_le (by omega)
  rw [eL] at ho
  have ho2:OS h' 1 nv L.length (L.map iv):=by rw [hLl];exact ho
  have hlq:= @hl NoB _ hk' (fun _ _ q=>q)
  obtain ⟨cv,c1,c2,c3,c4⟩:=ho2.rs.cut (lo:=0) (hi:=c) (by omega) (by omega)
  rw [List.drop_zero,Nat.sub_zero] at c1
  obtain ⟨ga,oa,aa,la⟩:=ho2.rs.at2 (i:=c) (by omega)
  obtain ⟨gb,ob,ab,lb⟩:=ho2.rs.at2 (i:=c+1) (by omega)
  have ia:(L.map iv)[c]?=some (.int .i64 (L.getD c 0)):=by have:=zg (l:=L) (i:=c) (by omega) (by omega);rw [Int.toNat_natCast] at this;exact this
  have ib:(L.map iv)[c+1]?=some (.int .i64 (L.getD (c+1) 0)):=by have:=zg (l:=L) (i:=((c+1:Nat):Int)) (by omega) (by omega);rw [Int.toNat_natCast] at this;exact this
  rw [ia] at la
  rw [ib] at lb
  generalize L.getD c 0=wal at la ⊢
  generalize L.getD (c+1) 0=next at lb ⊢
  have e1:AV.int .i64 ((c:Int)+1)=AV.int .i64 ((c+1:Nat):Int):=int_eq (by omega)
  have la0:= @la NoB _ (Keep.refl _ _) (fun _ _ q=>q)
  have lb0:= @lb NoB _ (Keep.refl _ _) (fun _ _ q=>q)
  repeat first|refine ZI ?_|refine CB (hr'.ah (by rfl)) ?_|refine CB (ha rfl rfl) ?_|refine CB (hlq rfl) ?_|refine CB (cZ rfl (by omega)) ?_|refine CB (c4 (by rfl) (.inl ⟨rfl,rfl⟩) (.inr ⟨_,_,rfl,rfl⟩)) ?_|refine CB (aa rfl rfl) ?_|refine CB (la0 rfl) ?_|refine CB (Lt rfl rfl (by omega)) ?_|refine CB (ab rfl e1) ?_|refine CB (lb0 rfl) ?_|refine BV (hr'.ah (by rfl)) ?_|refine BV (ha rfl rfl) ?_|refine BV (hlq rfl) ?_|refine BV (cZ rfl (by omega)) ?_|refine BV (c4 (by rfl) (.inl ⟨rfl,rfl⟩) (.inr ⟨_,_,rfl,rfl⟩)) ?_|refine BV (aa rfl rfl) ?_|refine BV (la0 rfl) ?_|refine BV (Lt rfl rfl (by omega)) ?_|refine BV (ab rfl e1) ?_|refine BV (lb0 rfl) ?_|refine BP ?_|refine BQ ?_|refine CC ?_
  have hkp:Keep NoB h' (h'.push (.rw [.ae, .int .i64 0, .int .i64 0])):=Keep.push _ _ _
  have la1:= @la NoB _ hkp (fun _ _ q=>q)
  have lb1:= @lb NoB _ hkp (fun _ _ q=>q)
  refine zB (by repeat first|exact aW|refine aZ rfl rfl ?_|refine aZ rfl (c4 (by rfl) (.inl ⟨rfl,rfl⟩) (.inr ⟨_,_,rfl,rfl⟩)) ?_|refine aZ rfl (aa rfl rfl) ?_|refine aZ rfl (la1 rfl) ?_|refine aZ rfl (Lt rfl rfl (by omega)) ?_|refine aZ rfl (ab rfl e1) ?_|refine aZ rfl (lb1 rfl) ?_|refine Ew rfl rfl ?_) ?_
  have n1:=hk'.n
  have bx1:Bx (h'.push (.rw [.ae, .int .i64 0, .int .i64 0])) h'.n [.ae, .int .i64 0, .int .i64 0]:=aH
  obtain ⟨hp,hhp⟩:∃hp:Hp X,hp=h'.push (.rw [.ae, .int .i64 0, .int .i64 0]):=⟨_,rfl⟩
  rw [<-hhp] at hkp bx1 ⊢
  have npp:hp.n=h'.n+1:=by rw [hhp];rfl
  simp only [setS]
  refine bF rfl ((Oa hE T.Zn (c1.up hkp) (c3 (by rintro rfl;exact ho2.elim)) (by rw [List.length_take];omega)).mono fun tv h2 ⟨⟨k2,b2⟩,o2⟩=> ?_)
  have kk:=hkp.and k2
  have la2:= @la NoB _ kk (fun _ _ q=>q)
  have lb2:= @lb NoB _ kk (fun _ _ q=>q)
  have bx2:=bx1.up k2
  refine ⟨(by repeat first|exact aW|refine aZ rfl rfl ?_|refine aZ rfl (c4 (by rfl) (.inl ⟨rfl,rfl⟩) (.inr ⟨_,_,rfl,rfl⟩)) ?_|refine aZ rfl (aa rfl rfl) ?_|refine aZ rfl (la2 rfl) ?_|refine aZ rfl (Lt rfl rfl (by omega)) ?_|refine aZ rfl (ab rfl e1) ?_|refine aZ rfl (lb2 rfl) ?_|refine Ew rfl bx2.get ?_), ?_⟩
  refine QS (Jt rfl rfl rfl o2.rs.one.1 rfl rfl) ?_
  refine Jw (aV bx2 rfl rfl (aX o2.rs.one.2 rfl rfl) rfl (Nat.le_refl _)) ?_
  have bx3:=bx2.put (r:=[tv, .int .i64 wal, .int .i64 next])
  have k3:Keep (az h'.n) h2 (h2.put h'.n (.rw [tv, .int .i64 wal, .int .i64 next])):=Keep.put _ _ _ rfl
  have o3:=o2.keep k3 (fun k q1 q2=>by have:=b2 k q1;have q2:k=h'.n:=q2;omega)
  have bxr:=(((Bx.mk (by omega) hg:Bx h1 h.n _).up hk').up kk).keep k3 (fun q=>by have q:h.n=h'.n:=q;omega)
  obtain ⟨h3,hh3⟩:∃h3:Hp X,h3=h2.put h'.n (.rw [tv, .int .i64 wal, .int .i64 next]):=⟨_,rfl⟩
  refine mY (h':=h3) (by rw [hh3];rfl) ?_
  rw [<-hh3] at bx3 k3 o3 bxr
  repeat first|refine ZI ?_|refine CB (dh bx3 rfl (Nat.le_refl _)) ?_|refine BV (dh bx3 rfl (Nat.le_refl _)) ?_|refine BP ?_|refine BQ ?_|refine CC ?_
  refine ag rfl ((zt hE T.right T.has T.idx o3.rs (by rw [List.length_take];omega)).mono fun r h4 ⟨k4,e4⟩=> ?_)
  subst e4
  have bx4:=bx3.up k4
  have aaP:=bxr.up k4
  have K4:Keep NoB h h4:=((((hk.and hk').and kk)).own k3 (fun k q=>by have q:k=h'.n:=q;omega)).and k4
  have o4:=o3.up k4
  cases hm:xm (L.take c) wal next with
  |false=>
   repeat first|refine ZI ?_|refine BW (aV aaP rfl rfl rfl rfl (Nat.le_refl _)) ?_|refine BP ?_|refine BQ ?_|refine CC ?_
   exact AT (ry rfl (Hp.bW _ _ _) (Nat.le_refl _) rfl) ⟨K4.own (Keep.put (S:=az h.n) _ _ _ rfl) (fun k q=>by have q:k=h.n:=q;omega),rfl⟩
  |true=>
   repeat first|refine ZI ?_|refine CB (dh bx4 rfl (Nat.le_refl _)) ?_|refine BV (dh bx4 rfl (Nat.le_refl _)) ?_|refine BW (aV aaP rfl rfl (aX o4.rs.one.2 rfl rfl) rfl (Nat.le_refl _)) ?_|refine BP ?_|refine BQ ?_|refine CC ?_
   have kz:Keep (az h.n) h4 (h4.put h.n (.rw [tv, .int .i64 wal, .int .i64 next])):=Keep.put _ _ _ rfl
   refine AT (ry rfl (Hp.bW _ _ _) (Nat.le_refl _) rfl) ⟨K4.own kz (fun k q=>by have q:k=h.n:=q;omega),tv,rfl,o4.keep kz (fun k q1 q2=> ?_),fun k q=> ?_⟩
   ·have:=b2 k q1
    have q2:k=h.n:=q2
    omega
   ·have:=b2 k q
    omega
theorem decode_ok (hE:∀f e,E f=some e->e.plain) (T:MfD E) {h:Hp X} {v:AV} {bs:List UInt8} (hr:RS h 1 v bs.length (bs.map ub)) (hb:bs.length<=1099511627776):
  WF (lim E) 118 [v] h fun r h'=>Ey h (Hf bs) r h':=by
 by_cases hx:bs.length < 1\/bs.length≠1+3*((bs.getD 0 0).toNat+2)
 ·have e:Hf bs=none:=by unfold Hf;rw [if_pos hx]
  rw [e]
  exact decode_bad hE T hr hb hx
 ·exact Oc hE T hr hb hx
end
section
variable {X:Type} {E:Nat->Option (Ent X)}
structure RdB (h:Hp X) (g m:Nat) (bs:List UInt8) (bad:Bool):Prop where
 mg:m<=g
 ok:∃bv,Bx h g [bv, .bool bad]/\RS h 1 bv bs.length (bs.map ub)/\∀k,blk bv k->k < m
theorem RdB.keep {S:Nat->Prop} {h h':Hp X} {g m:Nat} {bs:List UInt8} {bad:Bool} (a:RdB h g m bs bad) (k:Keep S h h') (hs:∀j,S j->g < j):RdB h' g m bs bad:=by
 obtain ⟨bv,h1,h2,h3⟩:=a.ok
 have:=a.mg
 exact ⟨a.mg,bv,h1.keep k (fun q=>by have:=hs _ q;omega),h2.keep k (fun j hj q=>by have:=h3 j hj;have:=hs j q;omega),h3⟩
theorem RdB.lt {h:Hp X} {g m:Nat} {bs:List UInt8} {bad:Bool} (a:RdB h g m bs bad):g < h.n:=by
 obtain ⟨bv,h1,_⟩:=a.ok
 exact h1.lt
end
end Am
end Go.Proofs.YtbnkdnlfdofepaaGreat
