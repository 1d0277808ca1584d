/- Concat of lists of numbers, of tables. Package kv: Flush. Names of tables and logs, plainly: each number has its own; what a disk with power makes of lay, Write, Open. No program. A database with power, plainly: what Put, Sync, Flush, Merge, Open make of it. No program. Package kv: Merge. -/
import Derived.Test.YtbnkdnlfdofepaaGreatXF
set_option linter.unusedVariables false
set_option linter.unusedSimpArgs false
namespace Go.Proofs.YtbnkdnlfdofepaaGreat
namespace Am
open Go.RowKit
set_option maxRecDepth 100000
def qA:BF:=⟨27,[0,1,4,6,16],(.seq (.reg [mvS 2 (.mv (.const .ae))]) (.seq (.seq (.reg [ceS 5 1,mvS 3 (.bin .lss .no (eV 5) (.const (.int .i64 0)))]) (.cond (sL 3) (.reg [mvE 7 (.yL 9 (.const (.str [99,97,110,110,111,116,32,98,101,32,110,101,103,97,116,105,118,101]))), .mk none .none (.pan (eV 7))]) .skip)) (.seq (.seq (.reg [ceS 8 1,ceS 9 0,mvE 10 (.DC (eV 9)),ceS 11 0,lnE 12 11,mvE 13 (.bin .sub .no (eV 10) (eV 12)),mvE 14 (.bin .sub .no (eV 8) (eV 13)),csE 1 14]) (.seq (.reg [ceS 15 1,mvS 4 (.bin .gtr .no (eV 15) (.const (.int .i64 0)))]) (.cond (sL 4) (.reg [ceS 17 0,ceS 18 0,mvE 19 (.DC (eV 18)),mvE 20 (.sl 1 (eV 17) none (some (eV 19)) none),ceS 21 1,efE 22 (.Aq 1 8 [.bU] (eV 20) (eV 21)),ceS 23 0,lnE 24 23,mvE 25 (.sl 1 (eV 22) none (some (eV 24)) none),csE 0 25]) .skip))) (.seq (.reg [ceS 26 0,csE 2 26]) .ret)))),[.slot (sL 2)]⟩
def lJ:BF:=⟨36,[0,2,3,5,6,8,9,10,11,12,20,25,26,27,28],(.seq (.reg [mvS 1 (.mv (.const .ae))]) (.seq (.reg [mvS 2 (.mv (.const (.int .i64 0)))]) (.seq (.seq (.reg [mvS 6 (.mv (sL 0)),mvS 7 (.ah (sL 6)),mvS 8 (.mv (.const (.int .i64 0)))]) (.block 0 (.loop (.seq (.reg [mvS 9 (.bin .lss .no (sL 8) (sL 7))]) (.seq (.cond (sL 9) .skip (.exit 0)) (.seq (.block 1 (.seq (.reg [mvE 13 (.aP 1 (sL 6) (sL 8)),ldE 14 13,csE 3 14]) (.seq (.reg [ceS 15 2,ceS 16 3,lnE 17 16,mvE 18 (.bin .add .no (eV 15) (eV 17)),csE 2 18]) (.seq (.reg [ceS 19 2,mvS 10 (.bin .lss .no (eV 19) (.const (.int .i64 0)))]) (.cond (sL 10) (.reg [mvE 21 (.yL 9 (.const (.str [108,101,110,32,111,117,116,32,111,102,32,114,97,110,103,101]))), .mk none .none (.pan (eV 21))]) .skip))))) (.reg [mvE 22 (.bin .add .no (sL 8) (.const (.int .i64 1))),csE 8 22]))))))) (.seq (.reg [ceS 23 2,clE 24 129 [(.const .ae),eV 23],csE 4 24]) (.seq (.seq (.reg [mvS 11 (.mv (sL 0)),mvS 12 (.ah (sL 11)),mvS 13 (.mv (.const (.int .i64 0)))]) (.block 2 (.loop (.seq (.reg [mvS 14 (.bin .lss .no (sL 13) (sL 12))]) (.seq (.cond (sL 14) .skip (.exit 2)) (.seq (.block 3 (.seq (.reg [mvE 29 (.aP 1 (sL 11) (sL 13)),ldE 30 29,csE 5 30]) (.reg [ceS 31 4,ceS 32 5,efE 33 (.append 1 8 (eV 31) (eV 32)),csE 4 33]))) (.reg [mvE 34 (.bin .add .no (sL 13) (.const (.int .i64 1))),csE 13 34]))))))) (.seq (.reg [ceS 35 4,csE 1 35]) .ret)))))),[.slot (sL 1)]⟩
section
variable {X:Type} {E:Nat->Option (Ent X)}
theorem TL (hE:∀f e,E f=some e->e.plain) (hf:E 129=some (.bc qA)) {h:Hp X} {k:Nat} (h0:0 < k) (h1:k<=1000000):
  WF (lim E) 129 [.ae, .int .i64 k] h fun r h'=>Keep NoB h h'/\r= .slice 1 h.n 0 0 none/\OS h' 1 r 0 []:=by
 refine aC hE hf rfl ?_
 simp only [qA,mvE,mvS,clE,efE,ceS,ceE,csE,faE,nlE,ldE,lnE,exE,eV,sL,kI,List.map,getS]
 have hm:(maxLen:Nat)=9223372036854775807:=rfl
 have e1:((k:Int) - (0 - 0))=k:=by omega
 repeat first|refine ZA ?_|refine BP ?_|refine BQ ?_|refine aI ?_|refine aT ?_|refine aS ?_|refine aU ?_
 rw [e1]
 repeat first|refine ZA ?_|refine BW (LC rfl rfl h0 (by omega) (by omega)) ?_|refine BP ?_|refine BQ ?_|refine aI ?_|refine aT ?_|refine aS ?_|refine aU ?_
 exact ⟨Keep.push _ _ _,rfl,rfl,rfl,Nat.zero_lt_one,Nat.lt_succ_self _,_,Hp.aK _ _,by simp,by simp,trivial⟩
theorem JU (hE:∀f e,E f=some e->e.plain) (hf:E 81=some (.bc iY)) (hw:E 126=some (.bc mX)) {h:Hp X} {g:Nat} {tv xv:AV} {a b:Nat} {ts xs:List AV} (hgn:g < h.n) (hg:h.get g=some (.rw [tv,xv])) (ha:RS h 1 tv a ts) (hb:RS h 1 xv b xs) (h0:0 < a+b) (h1:a+b<=1000000):
  WF (lim E) 81 [.slice 1 g 0 2 (some 2)] h fun r h'=>vO h h' r/\OS h' 1 r (a+b) (ts++xs):=by
 refine aC hE hf rfl ?_
 simp only [iY,mvE,mvS,clE,efE,ceS,ceE,csE,faE,nlE,ldE,lnE,exE,eV,sL,kI,List.map,getS]
 have hm:(maxLen:Nat)=9223372036854775807:=rfl
 repeat first|refine ZA ?_|refine BP ?_|refine BQ ?_|refine aI ?_|refine aT ?_|refine aS ?_|refine aU ?_
 refine dW ?_
 repeat first|refine ZA ?_|refine BV (eG rfl hg rfl) ?_|refine BV (ha.ah (by rfl)) ?_|refine BV (hb.ah (by rfl)) ?_|refine BP ?_|refine BQ ?_|refine aI ?_|refine aT ?_|refine aS ?_|refine aU ?_
 refine dW ?_
 repeat first|refine ZA ?_|refine BV (eG rfl hg rfl) ?_|refine BV (ha.ah (by rfl)) ?_|refine BV (hb.ah (by rfl)) ?_|refine BP ?_|refine BQ ?_|refine aI ?_|refine aT ?_|refine aS ?_|refine aU ?_
 refine dW ?_
 repeat first|refine ZA ?_|refine BP ?_|refine BQ ?_|refine aI ?_|refine aT ?_|refine aS ?_|refine aU ?_
 refine ag rfl ?_
 rw [show (0+(a:Int)+(b:Int))=((a+b:Nat):Int) by omega]
 refine (LD hE hw (k:=a+b) (by omega) h1).mono fun r h2 ⟨k1,e1,o1⟩=> ?_
 have hg2:h2.get g=some (.rw [tv,xv]):=by rw [k1.get g hgn (fun q=>q)];exact hg
 repeat first|refine ZA ?_|refine BP ?_|refine BQ ?_|refine aI ?_|refine aT ?_|refine aS ?_|refine aU ?_
 refine dW ?_
 repeat first|refine ZA ?_|refine BV (eG rfl hg2 rfl) ?_|refine BP ?_|refine BQ ?_|refine aI ?_|refine aT ?_|refine aS ?_|refine aU ?_
 refine aA rfl rfl o1 Nat.zero_lt_one (ha.keep k1 (fun _ _ q=>q)) (by omega) (by omega) fun r2 h3 o2 k2 b2=> ?_
 have hgr:∀k,blk r k->k=h.n:=by rw [e1];exact fun k q=>q
 have k2':Keep NoB h h3:=k1.trans k2 (fun k hk q=>by have:=hgr k q;omega)
 have hg3:h3.get g=some (.rw [tv,xv]):=by rw [k2'.get g hgn (fun q=>q)];exact hg
 repeat first|refine ZA ?_|refine BP ?_|refine BQ ?_|refine aI ?_|refine aT ?_|refine aS ?_|refine aU ?_
 refine dW ?_
 repeat first|refine ZA ?_|refine BV (eG rfl hg3 rfl) ?_|refine BP ?_|refine BQ ?_|refine aI ?_|refine aT ?_|refine aS ?_|refine aU ?_
 refine aA rfl rfl o2 Nat.zero_lt_one (hb.keep k2' (fun _ _ q=>q)) (by omega) (by omega) fun r3 h4 o3 k3 b3=> ?_
 have hb2:∀k,blk r2 k->h.n<=k:=fun k q=>by
  rcases b2 k q with q|q
  ·have:=hgr k q;omega
  ·have:=k1.n;omega
 repeat first|refine ZA ?_|refine BP ?_|refine BQ ?_|refine aI ?_|refine aT ?_|refine aS ?_|refine aU ?_
 refine dW ?_
 repeat first|refine ZA ?_|refine BP ?_|refine BQ ?_|refine aI ?_|refine aT ?_|refine aS ?_|refine aU ?_
 refine ⟨⟨k2'.trans k3 (fun k hk q=>by have:=hb2 k q;omega),fun k q=> ?_⟩, ?_⟩
 ·rcases b3 k q with q|q
  ·exact hb2 k q
  ·have:=k2'.n;omega
 ·rw [Nat.zero_add,List.nil_append] at o3
  exact o3
theorem JV (hE:∀f e,E f=some e->e.plain) (hf:E 84=some (.bc lJ)) (hw:E 129=some (.bc qA)) {h:Hp X} {g:Nat} {tv xv:AV} {a b:Nat} {ts xs:List AV} (hgn:g < h.n) (hg:h.get g=some (.rw [tv,xv])) (ha:RS h 1 tv a ts) (hb:RS h 1 xv b xs) (h0:0 < a+b) (h1:a+b<=1000000):
  WF (lim E) 84 [.slice 1 g 0 2 (some 2)] h fun r h'=>vO h h' r/\OS h' 1 r (a+b) (ts++xs):=by
 refine aC hE hf rfl ?_
 simp only [lJ,mvE,mvS,clE,efE,ceS,ceE,csE,faE,nlE,ldE,lnE,exE,eV,sL,kI,List.map,getS]
 have hm:(maxLen:Nat)=9223372036854775807:=rfl
 repeat first|refine ZA ?_|refine BP ?_|refine BQ ?_|refine aI ?_|refine aT ?_|refine aS ?_|refine aU ?_
 refine dW ?_
 repeat first|refine ZA ?_|refine BV (eG rfl hg rfl) ?_|refine BV (ha.ah (by rfl)) ?_|refine BV (hb.ah (by rfl)) ?_|refine BP ?_|refine BQ ?_|refine aI ?_|refine aT ?_|refine aS ?_|refine aU ?_
 refine dW ?_
 repeat first|refine ZA ?_|refine BV (eG rfl hg rfl) ?_|refine BV (ha.ah (by rfl)) ?_|refine BV (hb.ah (by rfl)) ?_|refine BP ?_|refine BQ ?_|refine aI ?_|refine aT ?_|refine aS ?_|refine aU ?_
 refine dW ?_
 repeat first|refine ZA ?_|refine BP ?_|refine BQ ?_|refine aI ?_|refine aT ?_|refine aS ?_|refine aU ?_
 refine ag rfl ?_
 rw [show (0+(a:Int)+(b:Int))=((a+b:Nat):Int) by omega]
 refine (TL hE hw (k:=a+b) (by omega) h1).mono fun r h2 ⟨k1,e1,o1⟩=> ?_
 have hg2:h2.get g=some (.rw [tv,xv]):=by rw [k1.get g hgn (fun q=>q)];exact hg
 repeat first|refine ZA ?_|refine BP ?_|refine BQ ?_|refine aI ?_|refine aT ?_|refine aS ?_|refine aU ?_
 refine dW ?_
 repeat first|refine ZA ?_|refine BV (eG rfl hg2 rfl) ?_|refine BP ?_|refine BQ ?_|refine aI ?_|refine aT ?_|refine aS ?_|refine aU ?_
 refine aA rfl rfl o1 Nat.zero_lt_one (ha.keep k1 (fun _ _ q=>q)) (by omega) (by omega) fun r2 h3 o2 k2 b2=> ?_
 have hgr:∀k,blk r k->k=h.n:=by rw [e1];exact fun k q=>q
 have k2':Keep NoB h h3:=k1.trans k2 (fun k hk q=>by have:=hgr k q;omega)
 have hg3:h3.get g=some (.rw [tv,xv]):=by rw [k2'.get g hgn (fun q=>q)];exact hg
 repeat first|refine ZA ?_|refine BP ?_|refine BQ ?_|refine aI ?_|refine aT ?_|refine aS ?_|refine aU ?_
 refine dW ?_
 repeat first|refine ZA ?_|refine BV (eG rfl hg3 rfl) ?_|refine BP ?_|refine BQ ?_|refine aI ?_|refine aT ?_|refine aS ?_|refine aU ?_
 refine aA rfl rfl o2 Nat.zero_lt_one (hb.keep k2' (fun _ _ q=>q)) (by omega) (by omega) fun r3 h4 o3 k3 b3=> ?_
 have hb2:∀k,blk r2 k->h.n<=k:=fun k q=>by
  rcases b2 k q with q|q
  ·have:=hgr k q;omega
  ·have:=k1.n;omega
 repeat first|refine ZA ?_|refine BP ?_|refine BQ ?_|refine aI ?_|refine aT ?_|refine aS ?_|refine aU ?_
 refine dW ?_
 repeat first|refine ZA ?_|refine BP ?_|refine BQ ?_|refine aI ?_|refine aT ?_|refine aS ?_|refine aU ?_
 refine ⟨⟨k2'.trans k3 (fun k hk q=>by have:=hb2 k q;omega),fun k q=> ?_⟩, ?_⟩
 ·rcases b3 k q with q|q
  ·exact hb2 k q
  ·have:=k2'.n;omega
 ·rw [Nat.zero_add,List.nil_append] at o3
  exact o3
end
def pF:BF:=⟨130,[0,2,3,4,5,6,7,8,9,10,11,13,15,21,37,49,72,99],(.seq (.reg [mvS 1 (.mv (.const (.int .i64 0)))]) (.seq (.seq (.reg [ceS 16 0,nlE 17 16,faE 18 7 17,ldE 19 18,clE 20 78 [eV 19],mvS 13 (.bin .eql .no (eV 20) (.const (.int .i64 0)))]) (.cond (sL 13) (.seq (.reg [mvS 1 (.mv (.const (.int .i64 0)))]) .ret) .skip)) (.seq (.reg [ceS 22 0,nlE 23 22,faE 24 2 23,faE 25 2 24,ldE 26 25,csE 2 26]) (.seq (.reg [ceS 27 0,nlE 28 27,faE 29 7 28,ldE 30 29,clE 31 79 [eV 30],csE 3 31]) (.seq (.seq (.reg [ceS 32 0,ceS 33 2,ceS 34 3,clE 35 80 [eV 32,eV 33,eV 34],csE 4 35]) (.seq (.reg [ceS 36 4,mvS 14 (.bin .neq .no (eV 36) (.const (.int .i64 0)))]) (.cond (sL 14) (.seq (.reg [ceS 38 4,csE 1 38]) .ret) .skip))) (.seq (.reg [ceS 39 2,mvE 40 (.bin .add .no (eV 39) (.const (.int .i64 1))),clE 41 75 [eV 40],csE 5 41]) (.seq (.seq (.reg [ceS 42 0,nlE 43 42,faE 44 0 43,ldE 45 44,ceS 46 5,clE 47 50 [eV 45,eV 46],csE 6 47]) (.seq (.reg [ceS 48 6,mvS 15 (.bin .neq .no (eV 48) (.const (.int .i64 0)))]) (.cond (sL 15) (.seq (.reg [ceS 50 6,csE 1 50]) .ret) .skip))) (.seq (.reg [ceS 51 2,efE 52 (.aF 1 1 [(.int .i64 0)] [(0,1,(eV 51))]),ceS 53 0,nlE 54 53,faE 55 2 54,faE 56 0 55,ldE 57 56,efE 58 (.aF 1 2 [.ae] [(0,1,(eV 52)),(1,1,(eV 57))]),clE 59 81 [eV 58],ceS 60 2,mvE 61 (.bin .add .no (eV 60) (.const (.int .i64 1))),ceS 62 2,mvE 63 (.bin .add .no (eV 62) (.const (.int .i64 2))),mvE 64 (.bld [.ae,(.int .i64 0),(.int .i64 0)] [(0,1,(eV 59)),(1,1,(eV 61)),(2,1,(eV 63))]), .mk none (.slot 7) (.eff (.alloc [.ae,(.int .i64 0),(.int .i64 0)])), .mk none .none (.eff (.store 3 (sL 7) (eV 64)))]) (.seq (.seq (.iC [(ceS 65 0,[]),(nlE 66 65,[]),(faE 67 0 66,[]),(ldE 68 67,[]),(mvE 69 (.ldn 3 (sL 7)),[]),(clE 70 82 [eV 68,eV 69],[]),(csE 8 70,[])]) (.seq (.reg [ceS 71 8,mvS 16 (.bin .neq .no (eV 71) (.const (.int .i64 0)))]) (.cond (sL 16) (.seq (.reg [ceS 73 8,csE 1 73]) .ret) .skip))) (.seq (.reg [ceS 74 0,nlE 75 74,faE 76 6 75,ldE 77 76,clE 78 83 [eV 77],csE 9 78]) (.seq (.reg [ceS 80 0,nlE 81 80,faE 82 0 81,ldE 83 82,ceS 84 2,clE 85 73 [eV 83,eV 84],ceE 79 85,exE 86 0 79,exE 87 1 79,csE 10 86,ceE 12 87]) (.seq (.reg [ceS 89 0,nlE 90 89,faE 91 0 90,ldE 92 91,ceS 93 5,clE 94 74 [eV 92,eV 93],ceE 88 94,exE 95 0 88,exE 96 1 88,exE 97 2 88,csE 11 95,ceE 14 96,csE 12 97]) (.seq (.seq (.reg [ceS 98 12,mvS 17 (.bin .neq .no (eV 98) (.const (.int .i64 0)))]) (.cond (sL 17) (.seq (.reg [ceS 100 12,csE 1 100]) .ret) .skip)) (.seq (.reg [ceS 101 0,ceS 102 10,efE 103 (.aF 1 1 [.bU] [(0,1,(eV 102))]),ceS 104 0,nlE 105 104,faE 106 5 105,ldE 107 106,efE 108 (.aF 1 2 [.ae] [(0,1,(eV 103)),(1,1,(eV 107))]),clE 109 84 [eV 108],nlE 110 101,faE 111 5 110, .mk none .none (.eff (.store 1 (eV 111) (eV 109)))]) (.seq (.iC [(ceS 112 0,[]),(ceS 113 0,[]),(ceS 114 0,[]),(mvE 115 (.ldn 3 (sL 7)),[]),(ceS 116 11,[]),(clE 117 72 [],[0,1,2,3,4]),(nlE 118 112,[]),(faE 119 2 118,[]),(.mk none .none (.eff (.store 3 (eV 119) (eV 115))),[1,2,4]),(nlE 120 113,[]),(faE 121 6 120,[]),(.mk none .none (.eff (.store 1 (eV 121) (eV 116))),[2]),(nlE 122 114,[]),(faE 123 7 122,[]),(.mk none .none (.eff (.store 1 (eV 123) (eV 117))),[])]) (.seq (.reg [ceS 124 0,nlE 125 124,faE 126 0 125,ldE 127 126,ceS 128 9,clE 129 85 [eV 127,eV 128]]) (.seq (.reg [mvS 1 (.mv (.const (.int .i64 0)))]) .ret))))))))))))))))),[.slot (sL 1)]⟩
noncomputable def JW (K:KS) (x:MD):Int×KS:=match openF x (wnm (K.nx+1)) with
 |(.error e,x)=>(e,{K with x:=x})
 |(.ok ls,x)=>(0,{x:=(x.remove K.nm).2,ns:=K.nx::K.ns,w:=K.nx+1,nx:=K.nx+2,tabs:=K.held::K.tabs,nm:=wnm (K.nx+1),n:=ls.length,held:=[]})
noncomputable def JX (K:KS) (c:Int×MD):Int×KS:=
 if c.1≠0 then (c.1,{K with x:=c.2}) else JW K c.2
noncomputable def JY (K:KS) (c:Int×MD):Int×KS:=
 if c.1≠0 then (c.1,{K with x:=c.2}) else JX K (fZ c.2 (ints (K.nx::K.ns)) (K.nx+1:Nat) (K.nx+2:Nat))
noncomputable def JZ (K:KS) (c:Int×MD):Int×KS:=
 if c.1≠0 then (c.1,{K with x:=c.2}) else JY K (c.2.create (wnm (K.nx+1)))
noncomputable def zW (K:KS):Int×KS:=if K.held=[] then (0,K) else JZ K (qx K.x K.nx K.held)
structure MQ (K:KS):Prop where
 fl:K.x.fs.length<=900000
 nx:K.nx<=90000000
 ns:K.ns.length<=900000
 held:K.held≠[]->jX K.held
 tab:K.held≠[]->(qx K.x K.nx K.held).1=0->((qx K.x K.nx K.held).2.create (wnm (K.nx+1))).1=0->(fZ ((qx K.x K.nx K.held).2.create (wnm (K.nx+1))).2 (ints (K.nx::K.ns)) (K.nx+1:Nat) (K.nx+2:Nat)).1=0->
  ∃f,(fZ ((qx K.x K.nx K.held).2.create (wnm (K.nx+1))).2 (ints (K.nx::K.ns)) (K.nx+1:Nat) (K.nx+2:Nat)).2.get (tnm K.nx)=some f/\f.b=dM K.held
 log:(beginF (fZ ((qx K.x K.nx K.held).2.create (wnm (K.nx+1))).2 (ints (K.nx::K.ns)) (K.nx+1:Nat) (K.nx+2:Nat)).2 (wnm (K.nx+1))).1.length<=1099511627776
structure KwF (E:Nat->Option (Ent MD)):Prop extends KwG E where
 ZT:E 44=some (.bc pF)
 abq:E 129=some (.bc qA)
 Xn:E 84=some (.bc lJ)
theorem Iq (x:MD) (l:List Int) (w n:Int):(fZ x l w n).2.fs.length<=x.fs.length+2:=by
 have h1:=jJ x dP
 have h2:=oH (x.create dP).2 dP (cu (ou l w n))
 have h3:=EC ((x.create dP).2.append dP (cu (ou l w n))).2 dP
 have h4:=Oe (((x.create dP).2.append dP (cu (ou l w n))).2.sync dP).2 dP fC
 unfold fZ
 split
 ·show x.fs.length<=_;omega
 ·split
  ·omega
  ·split
   ·omega
   ·split
    ·omega
    ·omega
theorem TM {x y:MD} {s:List UInt8} {e:Int} (h:openF x s=(.error e,y)):e≠0:=by
 unfold openF at h
 split at h
 ·cases h;assumption
 ·split at h
  ·cases h;decide
  ·split at h
   ·cases h;assumption
   ·split at h
    ·cases h;decide
    ·cases h
theorem Xo (x:MD) (s:List UInt8):(openF x s).2.fs.length<=x.fs.length+1:=by
 have h1:(beginF x s).2.2.fs.length<=x.fs.length+1:=by
  unfold beginF
  split
  ·exact Nat.le_succ _
  ·exact jJ x s
 have h2:(EI (beginF x s).2.2 s (beginF x s).1).2.fs.length<=x.fs.length+1:=by
  unfold Am.EI
  split
  ·rw [RP];exact h1
  ·exact h1
 unfold openF
 split
 ·exact h1
 ·split
  ·exact h1
  ·split
   ·exact h2
   ·split
    ·exact h2
    ·exact h2
theorem TN (x:MD) (n:Nat) (l:List EM):(qx x n l).2.fs.length<=x.fs.length+1:=by
 have h1:=jJ x (tnm n)
 have h2:=oH (x.create (tnm n)).2 (tnm n) (dM l)
 have h3:=EC ((x.create (tnm n)).2.append (tnm n) (dM l)).2 (tnm n)
 unfold qx
 split
 ·exact h1
 ·split
  ·omega
  ·omega
section
variable {E:Nat->Option (Ent MD)}
set_option maxHeartbeats 16000000 in
theorem OL (hE:∀f e,E f=some e->e.plain) (T:KwF E) {h:Hp MD} {db gd:Nat} {each:Bool} {K:KS} {W F:Nat->Prop} (D:DbH h db gd each K W F) (ok:KOK K) (ff:MQ K):
  WF (lim E) 44 [.ptr db 0] h fun r h'=>r= .int .i64 (zW K).1/\Did h h' db gd each (zW K).2 W F:=by
 obtain ⟨gl,gm,vm,vt,vn,Fm,R,D,hw,hrr,hff⟩:=D.out
 have DW:∀{h'} {K'},DbR h' db gd gl gm vm vt vn Fm R each K'->Keep (az gd) h h'->Did h h' db gd each K' W F:=fun {h' K'} d k=>⟨W,⟨gl,gm,vm,vt,vn,Fm,R,d,hw,fun k q=> .inl (hrr k q),fun k q=> .inl (hff k q)⟩,k.mono (fun g _ q=>(hw g).2 (.inr (.inl q))),fun k q=> .inl q⟩
 have hmx:(maxLen:Nat)=9223372036854775807:=rfl
 have hfl:=ff.fl
 have hnx:=ff.nx
 have hns:=ff.ns
 have hlt:=D.lt
 refine aC hE T.ZT rfl ?_
 simp only [pF,mvE,mvS,clE,efE,ceS,ceE,csE,faE,nlE,ldE,lnE,exE,eV,sL,kI,List.map,getS]
 unfold zW
 repeat first|refine ZA ?_|refine BV (ak rfl) ?_|refine BV (au D.bx rfl rfl) ?_|refine BP ?_|refine BQ ?_
 refine ag rfl ((Dj hE T.p.toKmT D.mem.OH).mono fun r h1 ⟨e1,e2⟩=> ?_)
 subst e1 e2
 by_cases hh:K.held=[]
 ·have h0:K.held.length=0:=by rw [hh];rfl
  rw [if_pos hh]
  repeat first|refine ZA ?_|refine BP ?_|refine BQ ?_
  exact ⟨rfl,DW D (Keep.refl _ _)⟩
 have hp:K.held.length≠0:=fun q=>hh (List.eq_nil_of_length_eq_zero q)
 have hto:=ff.held hh
 rw [if_neg hh]
 repeat first|refine ZA ?_|refine BV (ak rfl) ?_|refine BV (au D.bx rfl rfl) ?_|refine BP ?_|refine BQ ?_
 have hrow:=ok.rows K.held (List.mem_cons_self ..)
 refine ag rfl ((Xf hE T.p.toKmT D.mem.OH hrow).mono fun v h2 ⟨k2,o2⟩=> ?_)
 rw [wH (ok.nrm K.held (List.mem_cons_self ..))] at o2
 have D2:=D.up k2
 repeat first|refine ZA ?_|refine BP ?_|refine BQ ?_
 refine ag rfl ((TJ hE T.toKwT D2 hfl (by omega) o2.oM (fun k (q:_\/_)=>by have:=D.dk.lt;rcases q with q|q<;>omega) hto).mono fun r h3 ⟨e3,D3,k3⟩=> ?_)
 subst e3
 have K3:Keep (az gd) h1 h3:=k2.any.trans k3 (fun _ _ q=>q)
 have hl1:=TN K.x K.nx K.held
 have htab:=ff.tab hh
 have J3:=ff.log
 obtain ⟨A,hA⟩:∃A,A=qx K.x K.nx K.held:=⟨_,rfl⟩
 rw [<-hA] at D3 hl1 htab J3 ⊢
 clear hA
 obtain ⟨ec,x1⟩:=A
 simp only at D3 hl1 htab J3 ⊢
 unfold JZ
 by_cases q1:ec≠0
 ·repeat first|refine ZA ?_|refine BP ?_|refine BQ ?_
  rw [if_pos q1]
  exact ⟨rfl,DW D3 K3⟩
 have q1:ec=0:=by omega
 subst q1
 rw [if_neg (by simp)]
 have htab:=htab rfl
 repeat first|refine ZA ?_|refine BP ?_|refine BQ ?_
 refine ag rfl ((LQ hE T.wn T.dg (n:=K.nx+1) (by omega)).mono fun r h4 ⟨e4,e5⟩=> ?_)
 subst e4 e5
 rw [show 119::uI (K.nx+1)=wnm (K.nx+1) from rfl]
 repeat first|refine ZA ?_|refine BV (ak rfl) ?_|refine BV (au D3.bx rfl rfl) ?_|refine BP ?_|refine BQ ?_
 refine ag rfl ((nD hE T.m.create D3.dk (by show x1.fs.length<=_;omega) (wnm (K.nx+1))).mono fun r h5 ⟨e5,o5,k5⟩=> ?_)
 subst e5
 have D5:=D3.disk k5 o5
 have K5:Keep (az gd) h1 h5:=K3.trans k5 (fun _ _ q=>q)
 have hl2:=jJ x1 (wnm (K.nx+1))
 simp only at D5
 obtain ⟨A,hA⟩:∃A,A=x1.create (wnm (K.nx+1)):=⟨_,rfl⟩
 rw [<-hA] at D5 hl2 htab J3 ⊢
 clear hA
 obtain ⟨ec,x2⟩:=A
 simp only at D5 hl2 htab J3 ⊢
 unfold JY
 by_cases q2:ec≠0
 ·repeat first|refine ZA ?_|refine BP ?_|refine BQ ?_
  rw [if_pos q2]
  exact ⟨rfl,DW D5 K5⟩
 have q2:ec=0:=by omega
 subst q2
 rw [if_neg (by simp)]
 have htab:=htab rfl
 repeat first|refine ZA ?_|refine BW (dO (c:=niv K.nx) rfl rfl rfl) ?_|refine BP ?_|refine BQ ?_
 have r5:RS (h5.push (.rw [niv K.nx])) 1 (.slice 1 h5.n 0 1 (some 1)) 1 [niv K.nx]:=bH (n:=1) rfl
 obtain ⟨h6,hh6⟩:∃h6:Hp MD,h6=h5.push (.rw [niv K.nx]):=⟨_,rfl⟩
 have k6:Keep NoB h5 h6:=by rw [hh6];exact Keep.push _ _ _
 have n6:h6.n=h5.n+1:=by rw [hh6];rfl
 refine aJ (h':=h6) (by rw [hh6];first|done|rfl) ?_
 rw [<-hh6] at r5
 have D6:=D5.up k6
 repeat first|refine ZA ?_|refine BV (ak rfl) ?_|refine BV (au D6.bx rfl rfl) ?_|refine BW (uH rfl rfl ⟨rfl,rfl⟩ D6.ns.one) ?_|refine BP ?_|refine BQ ?_
 obtain ⟨h7,hh7⟩:∃h7:Hp MD,h7=h6.push (.rw [.slice 1 h5.n 0 1 (some 1),vn]):=⟨_,rfl⟩
 have k7:Keep NoB h6 h7:=by rw [hh7];exact Keep.push _ _ _
 have n7:h7.n=h6.n+1:=by rw [hh7];rfl
 have g7:h7.get h6.n=some (.rw [.slice 1 h5.n 0 1 (some 1),vn]):=by rw [hh7];exact Hp.aK _ _
 refine aJ (h':=h7) (by rw [hh7];first|done|rfl) ?_
 clear hh6 hh7
 have D7:=D6.up k7
 refine ag rfl ((JU hE T.m.concat T.m.grow (h:=h7) (g:=h6.n) (a:=1) (b:=K.ns.length) (by omega) g7 (r5.up k7) D7.ns (by omega) (by omega)).mono fun lv h8 ⟨⟨k8,b8⟩,o8⟩=> ?_)
 have D8:=D7.up k8
 have hall:allOne [lv,niv (K.nx+1),niv (K.nx+2)]=true:=aX o8.one.2 rfl rfl
 have r8:RS h8 1 lv (ints (K.nx::K.ns)).length ((ints (K.nx::K.ns)).map iv):=by
  rw [Fa,show (ints (K.nx::K.ns)).length=1+K.ns.length by simp [ints];omega]
  exact o8.rs
 repeat first|refine ZA ?_|refine BV (Jt rfl rfl rfl o8.one.1 rfl rfl) ?_|refine BW (aV aH rfl rfl hall rfl (Nat.le_refl _)) ?_|refine BP ?_|refine BQ ?_
 obtain ⟨h9,hh9⟩:∃h9:Hp MD,h9=(h8.push (.rw [.ae, .int .i64 0, .int .i64 0])).put h8.n (.rw [lv,niv (K.nx+1),niv (K.nx+2)]):=⟨_,rfl⟩
 have b9:Bx h9 h8.n [lv,niv (K.nx+1),niv (K.nx+2)]:=by rw [hh9];exact Bx.put aH
 have k9:Keep NoB h8 h9:=by
  rw [hh9]
  exact (Keep.push NoB h8 _).own (Keep.put (S:=az h8.n) _ _ _ rfl) (fun k q=>by have q:k=h8.n:=q;omega)
 have n9:h9.n=h8.n+1:=by rw [hh9];rfl
 refine mY (h':=h9) (by rw [hh9];first|done|rfl) ?_
 clear hh9
 have D9:=D8.up k9
 repeat first|refine ZI ?_|refine CB (ak rfl) ?_|refine CB (au D9.bx rfl rfl) ?_|refine CB (dh b9 rfl (Nat.le_refl _)) ?_|refine BV (ak rfl) ?_|refine BV (au D9.bx rfl rfl) ?_|refine BV (dh b9 rfl (Nat.le_refl _)) ?_|refine BP ?_|refine BQ ?_|refine CC ?_
 refine bF rfl ((Hg hE T.m D9.dk (by show x2.fs.length<=_;omega) (r8.up k9) (w:=(K.nx+1:Nat)) (n:=(K.nx+2:Nat)) (by simp [ints];omega)).mono fun r h10 ⟨e10,o10,k10⟩=> ?_)
 subst e10
 refine ⟨aW, ?_⟩
 have D10:=D9.disk k10 o10
 have K10:Keep (az gd) h1 h10:=(((((K5.trans k6 (fun _ _ q=>q.elim)).trans k7 (fun _ _ q=>q.elim)).trans k8 (fun _ _ q=>q.elim)).trans k9 (fun _ _ q=>q.elim))).trans k10 (fun _ _ q=>q)
 have b10:=b9.keep k10 (fun q=>by have q:h8.n=gd:=q;have:=D8.dk.lt;omega)
 have r10:=(o8.rs.up k9).keep k10 (fun k z1 z2=>by have z2:k=gd:=z2;have:=b8 k z1;have:=D7.dk.lt;omega)
 simp only at D10
 obtain ⟨A,hA⟩:∃A,A=fZ x2 (ints (K.nx::K.ns)) (K.nx+1:Nat) (K.nx+2:Nat):=⟨_,rfl⟩
 have hl3:=Iq x2 (ints (K.nx::K.ns)) (K.nx+1:Nat) (K.nx+2:Nat)
 rw [<-hA] at D10 hl3 htab J3 ⊢
 clear hA
 obtain ⟨ec,x3⟩:=A
 simp only at D10 hl3 htab J3 ⊢
 unfold JX
 by_cases q3:ec≠0
 ·repeat first|refine ZI ?_|refine BP ?_|refine BQ ?_|refine CC ?_
  rw [if_pos q3]
  exact ⟨rfl,DW D10 K10⟩
 have q3:ec=0:=by omega
 subst q3
 rw [if_neg (by simp)]
 obtain ⟨f,hf1,hf2⟩:=htab rfl
 repeat first|refine ZI ?_|refine BP ?_|refine BQ ?_|refine CC ?_
 repeat first|refine ZA ?_|refine BV (ak rfl) ?_|refine BV (au D10.bx rfl rfl) ?_|refine BP ?_|refine BQ ?_
 refine ag rfl ((Ht hE T.w D10.log).mono fun r h11 ⟨e11,e12⟩=> ?_)
 subst e11 e12
 repeat first|refine ZA ?_|refine BV (ak rfl) ?_|refine BV (au D10.bx rfl rfl) ?_|refine BP ?_|refine BQ ?_
 refine ag rfl ((zU hE T.toKwT D10.dk (by show x3.fs.length<=_;omega) (by omega) hf1 hf2 hto).mono fun r h12 ⟨k12,gt,e12,m12,l12⟩=> ?_)
 subst e12
 have D12:=D10.up k12
 have b12:=b10.up k12
 repeat first|refine ZA ?_|refine BV (ak rfl) ?_|refine BV (au D12.bx rfl rfl) ?_|refine BP ?_|refine BQ ?_
 have hwl:1<=(wnm (K.nx+1)).length/\(wnm (K.nx+1)).length<=32:=by have:=oK (K.nx+1);unfold wnm;simp;omega
 refine ag rfl ((L6 hE T.w D12.dk (by show x3.fs.length<=_;omega) hwl.1 hwl.2 J3).mono fun r h13 op=> ?_)
 unfold OpenPost at op
 obtain ⟨k13,o13,op⟩:=op
 have D13:=D12.disk k13 o13
 have K13:Keep (az gd) h1 h13:=(K10.trans k12 (fun _ _ q=>q.elim)).trans k13 (fun _ _ q=>q)
 simp only at D13 op
 unfold JW
 have hl4:=Xo x3 (wnm (K.nx+1))
 have hne:=fun e x=>TM (x:=x3) (s:=wnm (K.nx+1)) (e:=e) (y:=x)
 obtain ⟨A,hA⟩:∃A,A=openF x3 (wnm (K.nx+1)):=⟨_,rfl⟩
 rw [<-hA] at D13 op hne hl4 ⊢
 clear hA
 obtain ⟨oc,x4⟩:=A
 simp only at D13 op
 cases oc with
 |error e=>
  have hne:=hne e x4 rfl
  have op:r= .tup [.bU, .ae, .int .i64 e]:=op
  subst op
  repeat first|refine ZA ?_|refine BP ?_|refine BQ ?_
  exact ⟨rfl,DW D13 K13⟩
 |ok ls=>
  obtain ⟨gl',mv,e13,l13,abr,bt13⟩:∃g m,r= .tup [.ptr g 0,m, .int .i64 0]/\h12.n<=g/\Bx h13 g [.ptr gd 0, .str (wnm (K.nx+1)), .int .i64 ls.length]/\nG h13 m ls (fun k=>h12.n<=k/\k < g):=op
  subst e13
  have b13:=b12.keep k13 (fun q=>by have q:h8.n=gd:=q;have:=D8.dk.lt;omega)
  have r13:=(r10.up k12).keep k13 (fun k z1 z2=>by have z2:k=gd:=z2;have:=b8 k z1;have:=D7.dk.lt;omega)
  have m13:=m12.keep k13 (fun q=>by have q:gt=gd:=q;have:=D10.dk.lt;omega) (fun k z1 z2=>by have z2:k=gd:=z2;have:=D10.dk.lt;omega)
  repeat first|refine ZA ?_|refine BW (dO (c:= .ptr gt 0) rfl rfl rfl) ?_|refine BP ?_|refine BQ ?_
  have r14:RS (h13.push (.rw [.ptr gt 0])) 1 (.slice 1 h13.n 0 1 (some 1)) 1 [.ptr gt 0]:=bH (n:=1) rfl
  obtain ⟨h14,Fe⟩:∃h14:Hp MD,h14=h13.push (.rw [.ptr gt 0]):=⟨_,rfl⟩
  have k14:Keep NoB h13 h14:=by rw [Fe];exact Keep.push _ _ _
  have n14:h14.n=h13.n+1:=by rw [Fe];rfl
  refine aJ (h':=h14) (by rw [Fe];first|done|rfl) ?_
  rw [<-Fe] at r14
  clear Fe
  have D14:=D13.up k14
  obtain ⟨tc,t1,t2,t3⟩:=D14.tabs.out
  have htl:=ok.len
  repeat first|refine ZA ?_|refine BV (au D14.bx rfl rfl) ?_|refine BW (uH rfl rfl ⟨rfl,rfl⟩ t1.one) ?_|refine BP ?_|refine BQ ?_
  obtain ⟨h15,TP⟩:∃h15:Hp MD,h15=h14.push (.rw [.slice 1 h13.n 0 1 (some 1),vt]):=⟨_,rfl⟩
  have k15:Keep NoB h14 h15:=by rw [TP];exact Keep.push _ _ _
  have n15:h15.n=h14.n+1:=by rw [TP];rfl
  have g15:h15.get h14.n=some (.rw [.slice 1 h13.n 0 1 (some 1),vt]):=by rw [TP];exact Hp.aK _ _
  refine aJ (h':=h15) (by rw [TP];first|done|rfl) ?_
  clear TP
  refine ag rfl ((JV hE T.Xn T.abq (h:=h15) (g:=h14.n) (a:=1) (b:=K.tabs.length) (by omega) g15 (r14.up k15) (t1.up k15) (by omega) (by omega)).mono fun tv' h16 ⟨⟨k16,b16⟩,o16⟩=> ?_)
  have MR:=(k14.and k15).and k16
  have D16:=D13.up MR
  have n1316:=MR.n
  have k16n:=k16.n
  have zX:∀{e:En} {t:List AV} {x y:Od},x.ev e t= .ptr db 5->y.ev e t=tv'->(Ef.store 1 x y).ev e t h16=some (.bot,h16.put db (.rw [.ptr gd 0, .bool each,vn,niv K.w,niv K.nx,tv', .ptr gl 0, .ptr gm 0])):=fun hx hy=>fQ D16.bx hx hy o16.one (by simp)
  repeat first|refine ZA ?_|refine BV (ak rfl) ?_|refine BW (zX rfl rfl) ?_|refine BP ?_|refine BQ ?_
  obtain ⟨h17,TQ⟩:∃h17:Hp MD,h17=h16.put db (.rw [.ptr gd 0, .bool each,vn,niv K.w,niv K.nx,tv', .ptr gl 0, .ptr gm 0]):=⟨_,rfl⟩
  have k17:Keep (az db) h16 h17:=by rw [TQ];exact Keep.put _ _ _ rfl
  have d17:Bx h17 db [.ptr gd 0, .bool each,vn,niv K.w,niv K.nx,tv', .ptr gl 0, .ptr gm 0]:=by rw [TQ];exact D16.bx.put
  have n17:h17.n=h16.n:=by rw [TQ];rfl
  refine mY (h':=h17) (by rw [TQ];first|done|rfl) ?_
  clear TQ
  have b17:=(b13.up MR).keep k17 (fun q=>by have q:h8.n=db:=q;have:=D8.bx.lt;omega)
  repeat first|refine ZI ?_|refine CB (dh b17 rfl (Nat.le_refl _)) ?_|refine BV (dh b17 rfl (Nat.le_refl _)) ?_|refine BP ?_|refine BQ ?_|refine CC ?_
  refine bF rfl ((MI hE T.p.toKmT).mono fun r h18 ⟨e18,m18,k18⟩=> ?_)
  subst e18
  have b18:=b17.up k18
  have d18:=d17.up k18
  refine ⟨(by (try simp only [List.nil_append,List.cons_append]);repeat first|exact aW|(apply iR;(focus exact rfl);first|exact jq|(refine iT ?_;first|exact (dh b18 rfl (Nat.le_refl _))|exact rfl))), ?_⟩
  have MS:∀{e:En} {t:List AV} {x y:Od},x.ev e t= .ptr db 2->y.ev e t= .agg [lv,niv (K.nx+1),niv (K.nx+2)]->(Ef.store 3 x y).ev e t h18=some (.bot,h18.put db (.rw [.ptr gd 0, .bool each,lv,niv (K.nx+1),niv (K.nx+2),tv', .ptr gl 0, .ptr gm 0])):=fun hx hy=>aV d18 hx hy hall rfl (by simp)
  have abt:∀{e:En} {t:List AV} {x y:Od},x.ev e t= .ptr db 6->y.ev e t= .ptr gl' 0->(Ef.store 1 x y).ev e t (h18.put db (.rw [.ptr gd 0, .bool each,lv,niv (K.nx+1),niv (K.nx+2),tv', .ptr gl 0, .ptr gm 0]))=some (.bot,(h18.put db (.rw [.ptr gd 0, .bool each,lv,niv (K.nx+1),niv (K.nx+2),tv', .ptr gl 0, .ptr gm 0])).put db (.rw [.ptr gd 0, .bool each,lv,niv (K.nx+1),niv (K.nx+2),tv', .ptr gl' 0, .ptr gm 0])):=fun hx hy=>fQ (d18.put (r:=[.ptr gd 0, .bool each,lv,niv (K.nx+1),niv (K.nx+2),tv', .ptr gl 0, .ptr gm 0])) hx hy ⟨rfl,rfl⟩ (by simp)
  obtain ⟨hA,hhA⟩:∃hA:Hp MD,hA=(h18.put db (.rw [.ptr gd 0, .bool each,lv,niv (K.nx+1),niv (K.nx+2),tv', .ptr gl 0, .ptr gm 0])).put db (.rw [.ptr gd 0, .bool each,lv,niv (K.nx+1),niv (K.nx+2),tv', .ptr gl' 0, .ptr gm 0]):=⟨_,rfl⟩
  have kA:Keep (az db) h18 hA:=by rw [hhA];exact (Keep.put (S:=az db) h18 db _ rfl).trans (Keep.put (S:=az db) _ db _ rfl) (fun _ _ q=>q)
  have dA:Bx hA db [.ptr gd 0, .bool each,lv,niv (K.nx+1),niv (K.nx+2),tv', .ptr gl' 0, .ptr gm 0]:=by rw [hhA];exact d18.put.put
  have nA:hA.n=h18.n:=by rw [hhA];rfl
  have abu:∀{e:En} {t:List AV} {x y:Od},x.ev e t= .ptr db 7->y.ev e t= .ptr h17.n 0->(Ef.store 1 x y).ev e t hA=some (.bot,hA.put db (.rw [.ptr gd 0, .bool each,lv,niv (K.nx+1),niv (K.nx+2),tv', .ptr gl' 0, .ptr h17.n 0])):=fun hx hy=>fQ dA hx hy ⟨rfl,rfl⟩ (by simp)
  repeat first|refine ZI ?_|refine CB (ak rfl) ?_|refine BV (ak rfl) ?_|refine BP ?_|refine BQ ?_|refine CC ?_
  refine rD (MS rfl rfl) (by (try simp only [List.nil_append,List.cons_append]);repeat first|exact aW|(apply iR;(focus exact rfl);first|exact jq|(refine iT ?_;first|exact rfl))) ?_
  repeat first|refine ZI ?_|refine CB (ak rfl) ?_|refine BV (ak rfl) ?_|refine BP ?_|refine BQ ?_|refine CC ?_
  refine rD (abt rfl rfl) (by (try simp only [List.nil_append,List.cons_append]);repeat first|exact aW|(apply iR;(focus exact rfl);first|exact jq|(refine iT ?_;first|exact rfl))) ?_
  refine mY (h':=hA) (by rw [hhA];first|done|rfl) ?_
  clear hhA
  repeat first|refine ZI ?_|refine CB (ak rfl) ?_|refine BV (ak rfl) ?_|refine BP ?_|refine BQ ?_|refine CC ?_
  refine rD (abu rfl rfl) (by (try simp only [List.nil_append,List.cons_append]);repeat first|exact aW|(apply iR;(focus exact rfl);first|exact jq|(refine iT ?_;first|exact rfl))) ?_
  obtain ⟨h19,TR⟩:∃h19:Hp MD,h19=hA.put db (.rw [.ptr gd 0, .bool each,lv,niv (K.nx+1),niv (K.nx+2),tv', .ptr gl' 0, .ptr h17.n 0]):=⟨_,rfl⟩
  have k19:Keep (az db) h18 h19:=kA.trans (by rw [TR];exact Keep.put (S:=az db) hA db _ rfl) (fun _ _ q=>q)
  have d19:Bx h19 db [.ptr gd 0, .bool each,lv,niv (K.nx+1),niv (K.nx+2),tv', .ptr gl' 0, .ptr h17.n 0]:=by rw [TR];exact dA.put
  have n19:h19.n=h18.n:=by rw [TR];exact nA
  refine mY (h':=h19) (by rw [TR];first|done|rfl) ?_
  clear TR
  have Ir:Keep (az db) h13 h19:=((MR.any.trans k17 (fun _ _ q=>q)).trans k18 (fun _ _ q=>q.elim)).trans k19 (fun _ _ q=>q)
  have Yj:Keep (az db) h16 h19:=(k17.trans k18 (fun _ _ q=>q.elim)).trans k19 (fun _ _ q=>q)
  obtain ⟨p1,p2,p3,p4,p5,p6,p7,p8,p9⟩:=D.ap
  have ldb:=D.bx.lt
  have lgd:=D.dk.lt
  have s1:=K5.n
  have s2:=k8.n
  have s3:=k9.n
  have s4:=K13.n
  have s5:=k12.n
  have s6:=k13.n
  have s7:=k18.n
  have s8:=k10.n
  have lgl:=abr.lt
  have o8l:=o8.lt
  have o16l:=o16.lt
  have lgt:gt < h12.n:=by obtain ⟨_,z,_⟩:=m12.out;exact z.lt
  have D19:DbR h19 db gd gl' h17.n .ae tv' lv (fun _=>False) (fun k=>R k\/blk lv k\/blk tv' k\/(h11.n<=k/\k < h12.n)) each {x:=x4,ns:=K.nx::K.ns,w:=K.nx+1,nx:=K.nx+2,tabs:=K.held::K.tabs,nm:=wnm (K.nx+1),n:=ls.length,held:=[]}:=by
   refine ⟨d19,(D13.dk).keep Ir (fun q=>p1 q.symm),abr.keep Ir (fun q=>by have q:gl'=db:=q;omega),⟨m18.keep k19 (fun q=>by have q:h17.n=db:=q;omega),[],rfl,fun i q e z=>by simp at z,fun q z=>by simp at z, .inl ⟨rfl,rfl⟩⟩, ?_, ?_,fun k z=> .inr (.inl z), ?_,fun k z=>z.elim, ?_⟩
   ·show RS h19 1 lv (K.ns.length+1) (niv K.nx::K.ns.map niv)
    rw [Nat.add_comm K.ns.length 1]
    exact r13.keep Ir (fun k z1 z2=>by have z2:k=db:=z2;have:=b8 k z1;omega)
   ·refine ⟨[.ptr gt 0]++tc, ?_,fun k z=> .inr (.inr (.inl z)),fun i l hi=> ?_⟩
    ·show RS h19 1 tv' (K.tabs.length+1) _
     rw [Nat.add_comm K.tabs.length 1]
     exact o16.rs.keep Yj (fun k z1 z2=>by have z2:k=db:=z2;have:=b16 k z1;omega)
    ·cases i with
     |zero=>
      have hi:K.held=l:=by simpa using hi
      subst hi
      have m19:=(m12.lt.keep k13 (fun q=>by have q:gt=gd:=q;have:=D10.dk.lt;omega) (fun k z1 z2=>by have z2:k=gd:=z2;have:=D10.dk.lt;omega)).keep Ir (fun q=>by have q:gt=db:=q;omega) (fun k z1 z2=>by have z2:k=db:=z2;omega)
      exact ⟨gt,rfl, .inr (.inr (.inr ⟨l12,lgt⟩)),m19.on fun k z=> .inr (.inr (.inr z))⟩
     |succ i=>
      obtain ⟨g0,y1,y2,y3⟩:=t3 i l (by simpa using hi)
      have nR:∀k,R k->¬az db k:=fun k z q=>(D.ro k z).2.1 q
      have abv:Keep (az db) h14 h19:=((k15.and k16).any).trans Yj (fun _ _ q=>q)
      exact ⟨g0,y1, .inl y2,(y3.keep abv (nR _ y2) nR).on fun k z=> .inl z⟩
   ·rintro k (z|z|z|z)
    ·obtain ⟨z1,z2,z3,z4,z5,z6⟩:=D.ro k z
     exact ⟨by omega,z2,z3,by omega,by omega,fun q=>q.elim⟩
    ·have:=b8 k z;have:=o8.lt k z
     exact ⟨by omega,by omega,by omega,by omega,by omega,fun q=>q.elim⟩
    ·have:=b16 k z;have:=o16.lt k z
     exact ⟨by omega,by omega,by omega,by omega,by omega,fun q=>q.elim⟩
    ·exact ⟨by omega,by omega,by omega,by omega,by omega,fun q=>q.elim⟩
   ·exact ⟨p1,by omega,by omega,fun q=>q.elim,by omega,by omega,fun q=>q.elim,by omega,fun q=>q.elim⟩
  repeat first|refine ZI ?_|refine BP ?_|refine BQ ?_|refine CC ?_
  repeat first|refine ZA ?_|refine BV (ak rfl) ?_|refine BV (au D19.bx rfl rfl) ?_|refine BP ?_|refine BQ ?_
  refine ag rfl ((nD hE T.rm D19.dk (by show x4.fs.length<=_;have:=hl4;simp only at this;omega) K.nm).mono fun r h20 ⟨e20,o20,k20⟩=> ?_)
  have D20:=D19.disk k20 o20
  repeat first|refine ZA ?_|refine BP ?_|refine BQ ?_
  refine ⟨rfl,⟨DbW db gd gl' h17.n .ae,⟨gl',h17.n, .ae,tv',lv,_,_,D20,fun k=>Iff.rfl,fun k z=> ?_,fun k z=>z.elim⟩, ?_,fun k z=> ?_⟩⟩
  ·rcases z with z|z|z|z
   ·exact .inl (hrr k z)
   ·have:=b8 k z;exact .inr (by omega)
   ·have:=b16 k z;exact .inr (by omega)
   ·exact .inr (by omega)
  ·exact ((K13.mono (T:=W) (fun g _ q=>(hw g).2 (.inr (.inl q)))).trans Ir (fun g _ q=>(hw g).2 (.inl q))).trans k20 (fun g _ q=>(hw g).2 (.inr (.inl q)))
  ·rcases z with z|z|z|z|z
   ·exact .inl ((hw k).2 (.inl z))
   ·exact .inl ((hw k).2 (.inr (.inl z)))
   ·exact .inr (by omega)
   ·exact .inr (by omega)
   ·exact z.elim
end
def vdig:List UInt8->Nat
 |[]=>0
 |c::s=>(c.toNat - 48)*10^s.length+vdig s
theorem zY:∀(k r:Nat) (s:List UInt8),r < 10^k->vdig (dacc k r s)=r*10^s.length+vdig s
 |0,r,s,h=>by
  have:r=0:=by simpa using h
  subst this
  simp [dacc]
 |k+1,r,s,h=>by
  rw [dacc]
  by_cases hc:s=[]\/r≠0
  ·rw [if_pos hc,zY k (r / 10) _ (by rw [Nat.pow_succ] at h;omega)]
   have h1:(UInt8.ofNat (48+r % 10)).toNat=48+r % 10:=by rw [UInt8.toNat_ofNat'];omega
   rw [vdig,h1,List.length_cons,Nat.pow_succ,show 48+r % 10 - 48=r % 10 by omega]
   generalize 10^s.length=p
   have h2:r*p=(10*(r / 10)+r % 10)*p:=by rw [Nat.div_add_mod]
   rw [h2,Nat.add_mul,Nat.mul_comm p 10,<-Nat.mul_assoc,Nat.mul_comm (r / 10) 10]
   omega
  ·have:r=0:=by
    by_cases q:r=0
    ·exact q
    ·exact absurd (.inr q) hc
   rw [if_neg hc,this]
   simp
theorem Iu {a b:Nat} (ha:a < 1000000000) (hb:b < 1000000000) (h:uI a=uI b):a=b:=by
 have h1:=zY 9 a [] ha
 have h2:=zY 9 b [] hb
 unfold uI at h
 rw [h,h2] at h1
 simp [vdig] at h1
 omega
theorem MV {a b:Nat} (ha:a < 1000000000) (hb:b < 1000000000) (h:tnm a=tnm b):a=b:=Iu ha hb (List.cons.inj h).2
theorem Xp {a b:Nat} (ha:a < 1000000000) (hb:b < 1000000000) (h:wnm a=wnm b):a=b:=Iu ha hb (List.cons.inj h).2
theorem tN (a b:Nat):tnm a≠wnm b:=fun h=>by have:=(List.cons.inj h).1;revert this;decide
theorem MW (a b:Nat):wnm a≠tnm b:=fun h=>tN b a h.symm
theorem Ff (a:Nat):tnm a≠dP:=fun h=>by have:=(List.cons.inj h).1;revert this;decide
theorem MX (a:Nat):wnm a≠dP:=fun h=>by have:=(List.cons.inj h).1;revert this;decide
theorem wJ (a:Nat):tnm a≠fC:=fun h=>by have:=(List.cons.inj h).1;revert this;decide
theorem pG (a:Nat):wnm a≠fC:=fun h=>by have:=(List.cons.inj h).1;revert this;decide
theorem TS:dP≠fC:=by decide
theorem Xq (a:Nat):MD.right (tnm a)=true:=by
 have:=oK a
 unfold MD.right tnm
 simp
 omega
theorem Fg (a:Nat):MD.right (wnm a)=true:=by
 have:=oK a
 unfold MD.right wnm
 simp
 omega
theorem zZ {L:Int} {x:MD} (h:MD.Calm L x) {l:List Int} {w n:Int} (hm:Jv l w n) (hu:(x.used:Int)+1006<=L):
  ∃y,fZ x l w n=(0,y)/\MD.Calm L y/\y.used<=x.used+1006/\(∃f,y.get fC=some f/\f.b=cu (ou l w n))/\(∀t,t≠dP->t≠fC->y.get t=x.get t)/\y.fs.length<=x.fs.length+1/\y.get dP=none:=by
 have he:=Wh hm
 have hr:=oI (ou l w n)
 obtain ⟨x1,e1,c1,u1,g1,o1,l1⟩:=h.create (s:=dP) rfl
 obtain ⟨x2,e2,c2,u2,g2,o2,l2⟩:=c1.append (b:=cu (ou l w n)) g1 (by omega)
 obtain ⟨x3,e3,c3,u3,g3,o3,l3⟩:=c2.sync g2
 obtain ⟨x4,e4,c4,u4,g4,n4,o4,l4⟩:=c3.rename (c:=fC) g3 rfl
 refine ⟨x4, ?_,c4,by omega,⟨_,g4,rfl⟩,fun t t1 t2=>by rw [o4 t t1 t2,o3 t t1,o2 t t1,o1 t t1],by omega,n4 TS⟩
 unfold fZ
 rw [zx.2 hm,if_neg (by decide),e1]
 simp only
 rw [if_neg (by decide),e2]
 simp only
 rw [if_neg (by decide),e3]
 simp only
 rw [if_neg (by decide),e4]
theorem Iw {L:Int} {x:MD} (h:MD.Calm L x) {n:Nat} {l:List EM} (hu:(x.used:Int)+(dM l).length<=L):
  ∃y,qx x n l=(0,y)/\MD.Calm L y/\y.used<=x.used+(dM l).length/\(∃f,y.get (tnm n)=some f/\f.b=dM l)/\(∀t,t≠tnm n->y.get t=x.get t)/\y.fs.length<=x.fs.length+1:=by
 obtain ⟨x1,e1,c1,u1,g1,o1,l1⟩:=h.create (Xq n)
 obtain ⟨x2,e2,c2,u2,g2,o2,l2⟩:=c1.append (b:=dM l) g1 (by omega)
 obtain ⟨x3,e3,c3,u3,g3,o3,l3⟩:=c2.sync g2
 refine ⟨x3, ?_,c3,by omega,⟨_,g3,rfl⟩,fun t t1=>by rw [o3 t t1,o2 t t1,o1 t t1],by omega⟩
 unfold qx
 rw [e1]
 simp only
 rw [if_neg (by decide),e2]
 simp only
 rw [if_neg (by decide),e3]
theorem J4 {x:MD} {s:Bs} {f:MF} {ls:List (List EM)} (hf:x.get s=some f) (hb:f.b=laidB ls) (h1:∀l∈ls,mM l=true/\nrm l) (h2:∀l∈ls,(dF l).length<=1048576):openF x s=(.ok ls,x):=by
 obtain ⟨m,k1,k2,k3,k4⟩:=Hz ((laidB ls).length+1) (ls:=ls) (p:=laidB ls) (q:=[]) h2 (by simp) (by omega)
 have hm:m=ls.length:=by have:=k4 ls.length (Nat.le_refl _) (by rw [List.take_length];exact Nat.le_refl _);omega
 subst hm
 rw [List.take_length] at k2
 have hbg:beginF x s=(laidB ls,0,x):=by unfold beginF;rw [hf,<-hb]
 unfold openF
 rw [hbg]
 simp only
 unfold Am.EI
 rw [k2]
 simp only
 rw [if_neg (by decide),if_neg (by decide),if_neg (Nat.lt_irrefl _)]
 simp only
 rw [if_neg (by decide),CV h1]
theorem J5 {L:Int} {x:MD} (h:MD.Calm L x) {s:Bs} (hs:MD.right s=true) (hg:x.get s=none):openF x s=(.ok [],(x.create s).2):=by
 obtain ⟨x1,e1,_⟩:=h.create hs
 have hbg:beginF x s=([],0,x1):=by unfold beginF;rw [hg,e1]
 unfold openF
 rw [hbg,e1]
 rfl
theorem tV:∀rs:List (List EM),(joinL rs).length<=(rs.map List.length).sum
 |[]=>Nat.le_refl _
 |r::rs=>by
  have h1:=tV rs
  have h2:=vY (r:=r) (acc:=joinL rs)
  simp only [joinL,List.map_cons,List.sum_cons]
  omega
def pI (s:Bs):Bool:=s.head?==some 116||s.head?==some 119||s==dP
noncomputable def iJ (x:MD) (ns:List Bs):MD:=ns.foldl (fun y s=>(y.remove s).2) x
noncomputable def kV (x:MD) (own:List Bs):MD:=iJ x ((x.fs.map MF.name).filter fun s=>pI s && !own.contains s)
theorem mD {L:Int}:∀{ns:List Bs} {x:MD},MD.Calm L x->MD.Calm L (iJ x ns)/\(iJ x ns).used<=x.used/\(∀t,t∉ns->(iJ x ns).get t=x.get t)/\(iJ x ns).fs.length<=x.fs.length/\∀t∈ns,(iJ x ns).get t=none
 |[],x,h=>⟨h,Nat.le_refl _,fun _ _=>rfl,Nat.le_refl _,fun _ q=>by cases q⟩
 |n::ns,x,h=>by
  have key:∃y,(x.remove n).2=y/\MD.Calm L y/\y.used<=x.used/\(∀t,t≠n->y.get t=x.get t)/\y.fs.length<=x.fs.length/\y.get n=none:=by
   cases hg:x.get n with
   |none=>exact ⟨x,by rw [MD.GZ hg],h,Nat.le_refl _,fun _ _=>rfl,Nat.le_refl _,hg⟩
   |some f=>
    obtain ⟨y,e1,c1,u1,g1,o1,l1⟩:=h.remove hg
    exact ⟨y,by rw [e1],c1,by omega,o1,l1,g1⟩
  obtain ⟨y,e1,c1,u1,o1,l1,z1⟩:=key
  obtain ⟨a,b,c,d,z⟩:=mD (ns:=ns) c1
  unfold iJ at*
  rw [List.foldl_cons,e1]
  exact ⟨a,by omega,fun t ht=>by rw [c t (fun q=>ht (List.mem_cons_of_mem _ q)),o1 t (fun q=>ht (q▸List.mem_cons_self ..))],by omega,fun t ht=>by
   by_cases q:t∈ns
   ·exact z t q
   ·rcases List.mem_cons.1 ht with rfl|ht
    ·rw [c _ q];exact z1
    ·exact absurd ht q⟩
theorem OM {L:Int} {x:MD} (h:MD.Calm L x) (own:List Bs):MD.Calm L (kV x own)/\(kV x own).used<=x.used/\(∀t,t∈own\/pI t=false->(kV x own).get t=x.get t)/\(kV x own).fs.length<=x.fs.length:=by
 obtain ⟨a,b,c,d,_⟩:=mD (ns:=(x.fs.map MF.name).filter fun s=>pI s && !own.contains s) h
 refine ⟨a,b,fun t ht=>c t fun q=> ?_,d⟩
 have:=(List.mem_filter.1 q).2
 rcases ht with ht|ht
 ·simp [ht] at this
 ·simp [ht] at this
theorem OO {L:Int} {x:MD} (h:MD.Calm L x) (own:List Bs) {t:Bs} (hm:pI t=true) (ho:t∉own):(kV x own).get t=none:=by
 obtain ⟨a,b,c,d,z⟩:=mD (ns:=(x.fs.map MF.name).filter fun s=>pI s && !own.contains s) h
 by_cases q:t∈(x.fs.map MF.name).filter fun s=>pI s && !own.contains s
 ·exact z t q
 ·unfold kV
  rw [c t q]
  cases hg:x.get t with
  |none=>rfl
  |some f=>
   obtain ⟨h1,h2⟩:=get_mem hg
   refine absurd (List.mem_filter.2 ⟨List.mem_map.2 ⟨f,h1,h2⟩, ?_⟩) q
   rw [hm]
   simp [ho]
noncomputable def uP (K:KS) (ns:List Nat) (tabs:List (List EM)) (c:Int×MD):Int×KS:=
 if c.1≠0 then (c.1,{K with x:=c.2}) else (0,{K with x:=iJ c.2 (K.ns.map tnm),ns:=ns,nx:=K.nx+1,tabs:=tabs})
noncomputable def Fh (K:KS) (l:List EM) (c:Int×MD):Int×KS:=
 if c.1≠0 then (c.1,{K with x:=c.2}) else uP K [K.nx] [l] (fZ c.2 (ints [K.nx]) K.w (K.nx+1:Nat))
noncomputable def rV (K:KS):Int×KS:=if K.tabs=[] then (0,K) else
 if aY (joinL K.tabs)=[] then uP K [] [] (fZ K.x (ints []) K.w (K.nx+1:Nat)) else Fh K (aY (joinL K.tabs)) (qx K.x K.nx (aY (joinL K.tabs)))
structure MZ (K:KS):Prop where
 fl:K.x.fs.length<=900000
 nx:K.nx<=90000000
 ns:K.ns.length<=900000
 nb:∀n∈K.ns,n < 100000000
 join:(joinL K.tabs).length<=1000000
 most:aY (joinL K.tabs)≠[]->jX (aY (joinL K.tabs))
 tab:aY (joinL K.tabs)≠[]->(qx K.x K.nx (aY (joinL K.tabs))).1=0->∃f,(qx K.x K.nx (aY (joinL K.tabs))).2.get (tnm K.nx)=some f/\f.b=dM (aY (joinL K.tabs))
structure TT (x:MD) (K:KS) (ls:List (List EM)) (x1:MD):Prop where
 fl:x.fs.length<=800000
 lb:∀f,x.get fC=some f->f.b.length<=1099511627776
 list:readF ((x.get fC).map MF.b)=(0,some (ints K.ns,(K.w:Int),(K.nx:Int)))\/(x.get fC=none/\K.ns=[]/\K.w=0/\K.nx=1)
 nb:∀n∈K.ns,n < 100000000
 wb:K.w < 100000000
 len:K.ns.length=K.tabs.length
 most:K.tabs.length<=1000
 files:∀(i:Nat) n l,K.ns[i]?=some n->K.tabs[i]?=some l->∃f,x.get (tnm n)=some f/\f.b=dM l
 tab:∀l∈K.tabs,jX l
 JC:(beginF x (wnm K.w)).1.length<=1099511627776
 log:openF x (wnm K.w)=(.ok ls,x1)
 nm:K.nm=wnm K.w
 n:K.n=ls.length
 held:K.held=ls.foldl dB []
 x:K.x=kV x1 (wnm K.w::K.ns.map tnm)
 names:∀f∈x1.fs,f.name≠[]
 fl1:x1.fs.length<=900000
 ll:ls.length<=1000000
 sz:∀l∈ls,∀e∈l,szE e
 sum:(ls.map List.length).sum<=800000
structure Small (e:EM):Prop where
 k1:1<=e.key.length
 k2:e.key.length<=20
 v:e.val.length<=20
 nrm:vX e
def bP (l:List EM):Prop:=∀e∈l,Small e
theorem ZU (e:EM):e.v.length<=e.val.length:=by unfold EM.v;split<;>simp
theorem Small.okE {e:EM} (h:Small e):okE e=true:=by
 have:=ZU e
 have h1:=h.k1;have h2:=h.k2;have h3:=h.v
 unfold Am.okE
 simp
 omega
theorem Small.szE {e:EM} (h:Small e):szE e:=⟨h.k1,by have:=h.k2;omega,by have:=h.v;omega⟩
theorem Small.own {e:EM} (h:Small e):Small e.own:=by rw [L9 h.nrm];exact h
theorem bP.may {l:List EM} (h:bP l) (hl:l.length<=8191):mM l=true:=by
 unfold mM
 rw [decide_eq_true hl,Bool.true_and,List.all_eq_true]
 exact fun e he=>(h e he).okE
theorem bP.put {l r:List EM} (hl:bP l) (hr:bP r):bP (dB l r):=fun e he=>by
 rcases lW he with h|⟨x,hx,rfl⟩
 ·exact hl e h
 ·exact (hr x hx).own
theorem bP.filter {l:List EM} (h:bP l) (p:EM->Bool):bP (l.filter p):=fun e he=>h e (List.mem_filter.1 he).1
theorem bP.join {rs:List (List EM)} (h:∀r∈rs,bP r):bP (joinL rs):=fun e he=>by
 obtain ⟨r,h1,x,hx,rfl⟩:=qy he
 exact (h r h1 x hx).own
theorem bP.Na {l:List EM} (h:bP l) (hr:dI l) (h0:l≠[]) (hl:l.length<=65535):jX l:=
 ⟨by have:=List.length_pos_iff.2 h0;omega,hl,hr,fun e he=>(h e he).okE,fun e he=>(h e he).nrm⟩
theorem bP.ET {l:List EM} (h:bP l) (hl:l.length<=1000):(dM l).length<=48000:=by
 have:=Am.ET (K:=40) (l:=l) fun e he=>by have:=(h e he).k2;have:=(h e he).v;have:=ZU e;omega
 have h2:bu l<=125:=by unfold bu;omega
 have h3:(40+7)*8*bu l<=(40+7)*8*125:=Nat.mul_le_mul_left _ h2
 omega
theorem bP.TU {l:List EM} (h:bP l):(dF l).length<=2+44*l.length:=by
 unfold dF
 rw [List.length_append,aB]
 have key:∀m:List EM,bP m->(m.flatMap jV).length<=44*m.length:=by
  intro m
  induction m with
  |nil=>intro _;simp
  |cons e m ih=>
   intro hm
   have h1:=ih fun x hx=>hm x (List.mem_cons_of_mem _ hx)
   have h2:=Hm e
   have h3:=hm e (List.mem_cons_self ..)
   have h4:=h3.k2
   have h5:=h3.v
   have h6:=ZU e
   rw [List.flatMap_cons,List.length_append,List.length_cons]
   omega
 have:=key l h
 omega
structure dm (K:KS) (ls:List (List EM)) (c s:Nat):Prop where
 calm:MD.Calm 16777216 K.x
 used:K.x.used<=100000*s
 fl:K.x.fs.length<=10*s
 sc:s<=100
 cc:c<=1000
 nx:K.nx<=1+2*s
 list:(∃f,K.x.get fC=some f/\f.b=cu (ou (ints K.ns) K.w K.nx))\/(K.x.get fC=none/\K.ns=[]/\K.w=0/\K.nx=1)
 len:K.ns.length=K.tabs.length
 tl:K.tabs.length<=s
 files:∀(i:Nat) n l,K.ns[i]?=some n->K.tabs[i]?=some l->∃f,K.x.get (tnm n)=some f/\f.b=dM l
 log:∃f,K.x.get (wnm K.w)=some f/\f.b=laidB ls
 nm:K.nm=wnm K.w
 n:K.n=ls.length
 held:K.held=ls.foldl dB []
 may:∀l∈ls,bP l/\l.length<=20
 lsl:ls.length<=s
 nums:Jv (ints K.ns) K.w K.nx
 tab:∀l∈K.tabs,jX l/\bP l
 cnt:K.held.length+(K.tabs.map List.length).sum<=c
def jy (K:KS):Prop:=∀s,pI s=true->s∉wnm K.w::K.ns.map tnm->K.x.get s=none
theorem Aa:∀{ls:List (List EM)} {a:List EM},dI a->dI (ls.foldl dB a)
 |[],_,h=>h
 |_::ls,_,h=>Aa (ls:=ls) (jk h)
theorem Ac:∀{ls:List (List EM)} {a:List EM},bP a->(∀l∈ls,bP l)->bP (ls.foldl dB a)
 |[],_,h,_=>h
 |l::ls,_,h,hl=>Ac (ls:=ls) (h.put (hl l (List.mem_cons_self ..))) fun x hx=>hl x (List.mem_cons_of_mem _ hx)
section
variable {K:KS} {ls:List (List EM)} {c s:Nat}
theorem dm.hris (g:dm K ls c s):dI K.held:=by rw [g.held];exact Aa .nil
theorem dm.hsm (g:dm K ls c s):bP K.held:=by rw [g.held];exact Ac (fun _ h=>by cases h) fun l hl=>(g.may l hl).1
theorem dm.sm (g:dm K ls c s):∀l∈K.held::K.tabs,bP l:=fun l hl=>by
 rcases List.mem_cons.1 hl with rfl|hl
 ·exact g.hsm
 ·exact (g.tab l hl).2
theorem Nb {l:List EM}:∀{rs:List (List EM)},l∈rs->l.length<=(rs.map List.length).sum
 |r::rs,h=>by
  rw [List.map_cons,List.sum_cons]
  rcases List.mem_cons.1 h with rfl|h
  ·omega
  ·have:=Nb h;omega
theorem dm.lens (g:dm K ls c s):∀l∈K.held::K.tabs,l.length<=c:=fun l hl=>by
 have:=Nb hl
 have:=g.cnt
 rw [List.map_cons,List.sum_cons] at*
 omega
theorem dm.ris (g:dm K ls c s):∀l∈K.held::K.tabs,dI l:=fun l hl=>by
 rcases List.mem_cons.1 hl with rfl|hl
 ·exact g.hris
 ·exact (g.tab l hl).1.ris
theorem dm.kok (g:dm K ls c s):KOK K:=by
 refine ⟨fun l hl=>⟨g.ris l hl,by have:=g.lens l hl;have:=g.cc;omega,fun e he=>(g.sm l hl e he).szE⟩,fun l hl e he=>(g.sm l hl e he).nrm,by have:=g.tl;have:=g.sc;omega, ?_⟩
 have h1:=tV (K.held::K.tabs)
 have h2:=g.cnt
 have h3:=g.cc
 rw [List.map_cons,List.sum_cons] at h1
 omega
theorem dm.nb (g:dm K ls c s):∀n∈K.ns,n < K.nx:=fun n hn=>by
 have:=(g.nums.all (Int.ofNat n) (List.mem_map.2 ⟨n,hn,rfl⟩)).2
 have e:(Int.ofNat n:Int)=(n:Int):=rfl
 omega
theorem dm.wn (g:dm K ls c s):K.w < K.nx:=by have:=g.nums.wn;omega
theorem dm.nxb (g:dm K ls c s):K.nx<=201:=by have:=g.nx;have:=g.sc;omega
theorem TV (ls:List (List EM)) (l:List EM):laidB (ls++[l])=laidB ls++cu (dF l):=by unfold laidB;rw [List.flatMap_append];simp
theorem dm.step (h:dm K ls c s) {s':Nat} (h1:s<=s') (h2:s'<=100):dm K ls c s':=
 ⟨h.calm,by have:=h.used;omega,by have:=h.fl;omega,h2,h.cc,by have:=h.nx;omega,h.list,h.len,by have:=h.tl;omega,h.files,h.log,h.nm,h.n,h.held,h.may,by have:=h.lsl;omega,h.nums,h.tab,h.cnt⟩
theorem dm.sync (g:dm K ls c s) (hs:s+1<=100):∃x',K.x.sync K.nm=(0,x')/\dm {K with x:=x'} ls c (s+1)/\(jy K->jy {K with x:=x'}):=by
 obtain ⟨f,hf,hb⟩:=g.log
 obtain ⟨x1,e1,c1,u1,g1,o1,l1⟩:=g.calm.sync hf
 have hu:=g.used;have hfl:=g.fl;have hnx:=g.nx;have htl:=g.tl;have hll:=g.lsl
 refine ⟨x1,by rw [g.nm];exact e1,⟨c1,by show x1.used<=_;omega,by show x1.fs.length<=_;omega,hs,g.cc,by show K.nx<=_;omega, ?_,g.len,by show K.tabs.length<=_;omega,fun i n l h1 h2=> ?_,⟨_,g1,hb⟩,g.nm,g.n,g.held,g.may,by omega,g.nums,g.tab,g.cnt⟩,fun cl s hm ho=>by
  show x1.get s=none
  rw [o1 _ (fun q=>ho (q▸List.mem_cons_self ..))]
  exact cl s hm ho⟩
 ·show (∃f,x1.get fC=some f/\_)\/(x1.get fC=none/\_)
  rw [o1 _ (pG _).symm]
  exact g.list
 ·show∃f,x1.get (tnm n)=some f/\_
  rw [o1 _ (tN _ _)]
  exact g.files i n l h1 h2
theorem dm.put (g:dm K ls c s) (each:Bool) {l:List EM} (h0:l≠[]) (hl:l.length<=20) (sm:bP l) (hc:c+l.length<=1000) (hs:s+2<=100):
  ∃K',JS each K l=(0,K')/\dm K' (ls++[l]) (c+l.length) (s+2)/\K'.held=dB K.held l/\K'.tabs=K.tabs/\K'.ns=K.ns/\K'.w=K.w/\K'.nx=K.nx/\(jy K->jy K'):=by
 obtain ⟨f,hf,hb⟩:=g.log
 have hm:=sm.may (by omega)
 have hbl:=sm.TU
 have hrl:=oI (dF l)
 have hu:=g.used;have hfl:=g.fl;have hnx:=g.nx;have htl:=g.tl;have hll:=g.lsl;have hsc:=g.sc
 obtain ⟨x1,e1,c1,u1,g1,o1,l1⟩:=g.calm.append (b:=cu (dF l)) hf (by omega)
 have hpos:=List.length_pos_iff.2 h0
 have hg1:dm {K with x:=x1,n:=K.n+1,held:=dB K.held l} (ls++[l]) (c+l.length) (s+1):=by
  refine ⟨c1,by show x1.used<=_;omega,by show x1.fs.length<=_;omega,by omega,hc,by show K.nx<=_;omega, ?_,g.len,by show K.tabs.length<=_;omega,fun i n l h1 h2=> ?_,⟨_,g1,by rw [TV,<-hb]⟩,g.nm, ?_, ?_,fun x hx=> ?_,by simp;omega,g.nums,g.tab, ?_⟩
  ·show (∃f,x1.get fC=some f/\_)\/(x1.get fC=none/\_)
   rw [o1 _ (pG _).symm]
   exact g.list
  ·show∃f,x1.get (tnm n)=some f/\_
   rw [o1 _ (tN _ _)]
   exact g.files i n l h1 h2
  ·show K.n+1=_
   rw [g.n];simp
  ·show dB K.held l=_
   rw [List.foldl_append,g.held];rfl
  ·rcases List.mem_append.1 hx with hx|hx
   ·exact g.may x hx
   ·rw [List.mem_singleton.1 hx];exact ⟨sm,hl⟩
  ·show (dB K.held l).length+_<=_
   have:=vY (r:=l) (acc:=K.held)
   have:=g.cnt
   show _+(K.tabs.map List.length).sum<=_
   omega
 have cl1:jy K->jy {K with x:=x1,n:=K.n+1,held:=dB K.held l}:=fun cl s hm ho=>by
  show x1.get s=none
  rw [o1 _ (fun q=>ho (q▸List.mem_cons_self ..))]
  exact cl s hm ho
 unfold JS
 rw [if_neg (by omega),hm,if_neg (by decide),g.nm,e1]
 simp only
 rw [if_neg (by decide)]
 rw [<-g.nm]
 cases each with
 |false=>
  rw [if_neg (by rintro ⟨q,_⟩;cases q)]
  exact ⟨_,rfl,hg1.step (by omega) hs,rfl,rfl,rfl,rfl,rfl,cl1⟩
 |true=>
  obtain ⟨x2,e2,h2,cl2⟩:=hg1.sync (by omega)
  have e2:x1.sync K.nm=(0,x2):=e2
  rw [e2,if_neg (by rintro ⟨_,q⟩;exact q rfl)]
  exact ⟨_,rfl,h2,rfl,rfl,rfl,rfl,rfl,fun cl=>cl2 (cl1 cl)⟩
theorem Ad {ns:List Nat} {x:Int} (h:x∈ints ns):∃n∈ns,x=(n:Int):=by
 obtain ⟨n,h1,h2⟩:=List.mem_map.1 h
 exact ⟨n,h1,h2.symm⟩
theorem dm.xm (g:dm K ls c s) (hs:s+1<=100):Jv (ints (K.nx::K.ns)) (K.nx+1:Nat) (K.nx+2:Nat):=by
 have h:=g.nums
 have hn:=g.nxb
 have htl:=g.tl
 have hlen:=g.len
 refine ⟨by simp [ints];omega,by omega,by omega,by omega,fun x hx=> ?_, ?_⟩
 ·obtain ⟨n,hn,rfl⟩:=Ad hx
  rcases List.mem_cons.1 hn with rfl|hn
  ·omega
  ·have:=g.nb n hn;omega
 ·show (Int.ofNat K.nx::ints K.ns).Nodup
  refine List.nodup_cons.2 ⟨fun q=> ?_,h.nd⟩
  obtain ⟨n,hn,e⟩:=Ad q
  have:=g.nb n hn
  have e:(K.nx:Int)=(n:Int):=e
  omega
theorem dm.flush (g:dm K ls c s) (hs:s+1<=100):MQ K/\∃K',zW K=(0,K')/\dm K' (if K.held=[] then ls else []) c (s+1)/\K'.held=[]/\K'.tabs=(if K.held=[] then K.tabs else K.held::K.tabs)/\(K.held=[]->K'.x=K.x)/\(jy K->jy K'):=by
 have hu:=g.used;have hfl:=g.fl;have hnx:=g.nx;have htl:=g.tl;have hll:=g.lsl;have hsc:=g.sc;have hlen:=g.len;have hcc:=g.cc
 have hnb:=g.nxb
 have hh:=g.lens K.held (List.mem_cons_self ..)
 have htb:=g.hsm.ET (by omega)
 have hwn:=g.wn
 obtain ⟨x1,e1,c1,u1,⟨f1,g1,b1⟩,o1,l1⟩:=Iw (n:=K.nx) (l:=K.held) g.calm (by omega)
 obtain ⟨x2,e2,c2,u2,g2,o2,l2⟩:=c1.create (Fg (K.nx+1))
 obtain ⟨x3,e3,c3,u3,⟨f3,g3,b3⟩,o3,l3,w3n⟩:=zZ c2 (g.xm hs) (by omega)
 have w3:x3.get (wnm (K.nx+1))=some ⟨wnm (K.nx+1),[],0⟩:=by rw [o3 _ (MX _) (pG _),g2]
 have t3:x3.get (tnm K.nx)=some f1:=by rw [o3 _ (Ff _) (wJ _),o2 _ (tN _ _),g1]
 refine ⟨⟨by omega,by omega,by omega,fun h0=>g.hsm.Na g.hris h0 (by omega),fun h0 _ _ _=> ?_, ?_⟩, ?_⟩
 ·rw [e1];simp only;rw [e2];simp only;rw [e3]
  exact ⟨f1,t3,b1⟩
 ·rw [e1];simp only;rw [e2];simp only;rw [e3]
  unfold beginF
  simp only
  rw [w3]
  simp
 unfold zW
 by_cases h0:K.held=[]
 ·rw [if_pos h0,if_pos h0,if_pos h0]
  exact ⟨K,rfl,⟨g.calm,by omega,by omega,hs,g.cc,by omega,g.list,g.len,by omega,g.files,g.log,g.nm,g.n,g.held,g.may,by omega,g.nums,g.tab,g.cnt⟩,h0,rfl,fun _=>rfl,fun cl=>cl⟩
 rw [if_neg h0,if_neg h0,if_neg h0,e1]
 unfold JZ
 simp only
 rw [if_neg (by decide),e2]
 unfold JY
 simp only
 rw [if_neg (by decide),e3]
 unfold JX
 simp only
 rw [if_neg (by decide)]
 unfold JW
 have e4:=J4 (ls:=[]) w3 rfl (fun _ h=>by cases h) (fun _ h=>by cases h)
 rw [e4]
 simp only
 have key:=mD (ns:=[K.nm]) c3
 obtain ⟨c4,u4,o4,l4,z4⟩:=key
 have e5:iJ x3 [K.nm]=(x3.remove K.nm).2:=rfl
 rw [e5] at c4 u4 o4 l4 z4
 rw [g.nm] at o4 ⊢
 rw [g.nm] at c4 u4 l4 z4
 have tw:wnm (K.nx+1)∉[wnm K.w]:=fun q=>by have:=Xp (by omega) (by omega) (List.mem_singleton.1 q);omega
 have sumh:=g.cnt
 refine ⟨_,rfl,⟨c4, ?_, ?_,hs,g.cc, ?_, .inl ⟨f3, ?_,b3⟩, ?_, ?_,fun i n l h1 h2=> ?_,⟨⟨wnm (K.nx+1),[],0⟩, ?_,rfl⟩,rfl,rfl,rfl,(fun _ h=>by cases h),by simp,g.xm hs,fun l hl=> ?_, ?_⟩,rfl,rfl,(fun q=>absurd q h0),fun cl t hm ho=> ?_⟩
 ·show (x3.remove _).2.used<=_;omega
 ·show (x3.remove _).2.fs.length<=_;omega
 ·show K.nx+2<=_;omega
 ·show (x3.remove _).2.get fC=_
  rw [o4 _ (fun q=>(pG _) (List.mem_singleton.1 q).symm),g3]
 ·show (K.nx::K.ns).length=(K.held::K.tabs).length
  simp [hlen]
 ·show (K.held::K.tabs).length<=_
  simp;omega
 ·show∃f,(x3.remove _).2.get (tnm n)=some f/\_
  rw [o4 _ (fun q=>(tN _ _) (List.mem_singleton.1 q))]
  cases i with
  |zero=>
   have h1:K.nx=n:=by simpa using h1
   have h2:K.held=l:=by simpa using h2
   subst h1 h2
   exact ⟨f1,t3,b1⟩
  |succ i=>
   have h1:K.ns[i]?=some n:=by simpa using h1
   have h2:K.tabs[i]?=some l:=by simpa using h2
   have hn:=g.nb n (List.mem_of_getElem? h1)
   rw [o3 _ (Ff _) (wJ _),o2 _ (tN _ _),o1 _ (fun q=>by have:=MV (by omega) (by omega) q;omega)]
   exact g.files i n l h1 h2
 ·show (x3.remove _).2.get _=_
  rw [o4 _ tw,w3]
 ·rcases List.mem_cons.1 hl with rfl|hl
  ·exact ⟨g.hsm.Na g.hris h0 (by omega),g.hsm⟩
  ·exact g.tab l hl
 ·show ([]:List EM).length+((K.held::K.tabs).map List.length).sum<=_
  rw [List.map_cons,List.sum_cons]
  simp
  omega
 ·show (x3.remove (wnm K.w)).2.get t=none
  by_cases qw:t=wnm K.w
  ·subst qw;exact z4 _ (List.mem_singleton.2 rfl)
  rw [o4 _ (fun q=>qw (List.mem_singleton.1 q))]
  by_cases qn:t=dP
  ·rw [qn];exact w3n
  have n1:t≠wnm (K.nx+1):=fun q=>ho (q▸List.mem_cons_self ..)
  have n2:t≠tnm K.nx:=fun q=>ho (q▸List.mem_cons_of_mem _ (List.mem_cons_self ..))
  have n3:t≠fC:=fun q=>by rw [q] at hm;revert hm;decide
  rw [o3 _ qn n3,o2 _ n1,o1 _ n2]
  refine cl t hm fun q=> ?_
  rcases List.mem_cons.1 q with q|q
  ·exact qw q
  ·exact ho (List.mem_cons_of_mem _ (List.mem_cons_of_mem _ q))
theorem dm.merge (g:dm K ls c s) (hs:s+1<=100):MZ K/\∃K',rV K=(0,K')/\dm K' ls c (s+1)/\K'.held=K.held/\K'.tabs=(if aY (joinL K.tabs)=[] then [] else [aY (joinL K.tabs)])/\(jy K->jy K'):=by
 have hu:=g.used;have hfl:=g.fl;have hnx:=g.nx;have htl:=g.tl;have hll:=g.lsl;have hsc:=g.sc;have hlen:=g.len;have hcc:=g.cc
 have hnb:=g.nxb
 have hwn:=g.wn
 have hjl:=tV K.tabs
 have hcnt:=g.cnt
 have hlv:(aY (joinL K.tabs)).length<=(joinL K.tabs).length:=List.length_filter_le _ _
 have smj:bP (aY (joinL K.tabs)):=(bP.join fun r hr=>(g.tab r hr).2).filter _
 have abw:dI (aY (joinL K.tabs)):=(dL _).filter _
 generalize hL:aY (joinL K.tabs)=L at*
 have htb:=smj.ET (by omega)
 obtain ⟨x1,e1,c1,u1,⟨f1,g1,b1⟩,o1,l1⟩:=Iw (n:=K.nx) (l:=L) g.calm (by omega)
 refine ⟨⟨by omega,by omega,by omega,fun n hn=>by have:=g.nb n hn;omega,by omega,fun h0=>by rw [hL];exact smj.Na abw (by rw [<-hL];exact h0) (by omega),fun _ _=>by rw [hL,e1];exact ⟨f1,g1,b1⟩⟩, ?_⟩
 unfold rV
 rw [hL]
 by_cases h0:K.tabs=[]
 ·rw [if_pos h0]
  have:L=[]:=by rw [<-hL,h0];rfl
  rw [if_pos this]
  exact ⟨K,rfl,⟨g.calm,by omega,by omega,hs,g.cc,by omega,g.list,g.len,by omega,g.files,g.log,g.nm,g.n,g.held,g.may,by omega,g.nums,g.tab,g.cnt⟩,rfl,h0,fun cl=>cl⟩
 rw [if_neg h0]
 have way:∀{x1:MD} {ns:List Nat} {tabs:List (List EM)},MD.Calm 16777216 x1->x1.used<=K.x.used+48000->x1.fs.length<=K.x.fs.length+1->Jv (ints ns) K.w (K.nx+1:Nat)->x1.get (wnm K.w)=K.x.get (wnm K.w)->ns.length=tabs.length->tabs.length<=1->(∀(i:Nat) n l,ns[i]?=some n->tabs[i]?=some l->tnm n∉K.ns.map tnm/\∃f,x1.get (tnm n)=some f/\f.b=dM l)->(∀l∈tabs,jX l/\bP l)->(tabs.map List.length).sum<=(K.tabs.map List.length).sum->(∀t,t∉ns.map tnm->x1.get t=K.x.get t)->
   ∃K',uP K ns tabs (fZ x1 (ints ns) K.w (K.nx+1:Nat))=(0,K')/\dm K' ls c (s+1)/\K'.held=K.held/\K'.tabs=tabs/\(jy K->jy K'):=fun {x1 ns tabs} z1 z2 z3 z4 z5 z6 z7 z8 z9 z10 z11=>by
  obtain ⟨x3,e3,c3,u3,⟨f3,g3,b3⟩,o3,l3,w3n⟩:=zZ z1 z4 (by omega)
  obtain ⟨c4,u4,o4,l4,z4'⟩:=mD (ns:=K.ns.map tnm) c3
  unfold uP
  rw [e3]
  simp only
  rw [if_neg (by decide)]
  have nt:∀t,(∀n,t≠tnm n)->t∉K.ns.map tnm:=fun t ht q=>by
   obtain ⟨n,_,e⟩:=List.mem_map.1 q
   exact ht n e.symm
  refine ⟨_,rfl,⟨c4, ?_, ?_,hs,g.cc, ?_, .inl ⟨f3, ?_,b3⟩,z6, ?_,fun i n l h1 h2=> ?_, ?_,g.nm,g.n,g.held,g.may,by omega,z4,z9, ?_⟩,rfl,rfl,fun cl t hm ho=> ?_⟩
  ·show (iJ x3 _).used<=_;omega
  ·show (iJ x3 _).fs.length<=_;omega
  ·show K.nx+1<=_;omega
  ·show (iJ x3 _).get fC=_
   rw [o4 _ (nt _ fun n=>(wJ n).symm),g3]
  ·show tabs.length<=_;omega
  ·show∃f,(iJ x3 _).get (tnm n)=some f/\_
   obtain ⟨q1,f,q2,q3⟩:=z8 i n l h1 h2
   rw [o4 _ q1,o3 _ (Ff _) (wJ _)]
   exact ⟨f,q2,q3⟩
  ·show∃f,(iJ x3 _).get (wnm K.w)=some f/\_
   rw [o4 _ (nt _ fun n=>MW _ _),o3 _ (MX _) (pG _),z5]
   exact g.log
  ·show K.held.length+(tabs.map List.length).sum<=_;omega
  ·show (iJ x3 _).get t=none
   by_cases qt:t∈K.ns.map tnm
   ·exact z4' t qt
   rw [o4 _ qt]
   by_cases qn:t=dP
   ·rw [qn];exact w3n
   have n3:t≠fC:=fun q=>by rw [q] at hm;revert hm;decide
   rw [o3 _ qn n3,z11 t (fun q=>ho (List.mem_cons_of_mem _ q))]
   refine cl t hm fun q=> ?_
   rcases List.mem_cons.1 q with q|q
   ·exact ho (q▸List.mem_cons_self ..)
   ·exact qt q
 by_cases h1:L=[]
 ·rw [if_pos h1,if_pos h1]
  exact way g.calm (by omega) (by omega) ⟨by simp [ints],by omega,by omega,by omega,fun x hx=>by simp [ints] at hx,by simp [ints]⟩ rfl rfl (by simp) (fun i n l h=>by simp at h) (fun _ h=>by cases h) (by simp) (fun _ _=>rfl)
 ·rw [if_neg h1,if_neg h1]
  unfold Fh
  rw [e1]
  simp only
  rw [if_neg (by decide)]
  refine way c1 (by omega) (by omega) ⟨by simp [ints],by omega,by omega,by omega,fun x hx=> ?_,by simp [ints]⟩ (o1 _ (MW _ _)) rfl (by simp) (fun i n l q1 q2=> ?_) (fun l hl=> ?_) (by simp;omega) (fun t ht=>o1 t fun q=>ht (by rw [q];exact List.mem_singleton.2 rfl))
  ·obtain ⟨n,hn,rfl⟩:=Ad hx
   have:=List.mem_singleton.1 hn
   omega
  ·cases i with
   |succ i=>simp at q1
   |zero=>
    have q1:K.nx=n:=by simpa using q1
    have q2:L=l:=by simpa using q2
    subst q1 q2
    refine ⟨fun q=> ?_,f1,g1,b1⟩
    obtain ⟨m,hm,e⟩:=List.mem_map.1 q
    have:=g.nb m hm
    have:=MV (by omega) (by omega) e
    omega
  ·rw [List.mem_singleton.1 hl]
   exact ⟨smj.Na abw h1 (by omega),smj⟩
theorem TW {L:Int} {x:MD} (h:MD.Calm L x):∀f∈x.fs,f.name≠[]:=fun f hf q=>by
 have:=h.ok.names f hf
 rw [q] at this
 revert this
 decide
end
theorem TY:∃K x1,TT (MD.new 16777216) K [] x1/\dm K [] 0 1/\K.held=[]/\K.tabs=[]/\jy K/\K.ns=[]/\K.w=0:=by
 have c0:MD.Calm 16777216 (MD.new 16777216):=MD.Calm.new (by decide) (by decide)
 obtain ⟨x1,e1,c1,u1,g1,o1,l1⟩:=c0.create (Fg 0)
 have e2:=J5 c0 (Fg 0) rfl
 rw [e1] at e2
 simp only at e2
 obtain ⟨c4,u4,o4,l4⟩:=OM c1 [wnm 0]
 have hu0:(MD.new 16777216).used=0:=rfl
 have hl0:(MD.new 16777216).fs.length=0:=rfl
 have hs:(MD.new 16777216).get fC=none:=rfl
 have hb:(beginF (MD.new 16777216) (wnm 0)).1.length<=1099511627776:=by unfold beginF;rw [show (MD.new 16777216).get (wnm 0)=none from rfl];simp
 refine ⟨{x:=kV x1 [wnm 0],ns:=[],w:=0,nx:=1,tabs:=[],nm:=wnm 0,n:=0,held:=[]},x1,⟨by omega,fun f hf=>(by rw [hs] at hf;cases hf), .inr ⟨hs,rfl,rfl,rfl⟩,(fun _ h=>by cases h),(by show (0:Nat) < 100000000;decide),rfl,by simp,fun i n l h=>by simp at h,(fun _ h=>by cases h),hb,e2,rfl,rfl,rfl,rfl,TW c1,by omega,by simp,(fun _ h=>by cases h),by simp⟩,⟨c4, ?_, ?_,by decide,by decide,(by show (1:Nat)<=3;decide), .inr ⟨?_,rfl,rfl,rfl⟩,rfl,by simp,fun i n l h=>by simp at h,⟨⟨wnm 0,[],0⟩, ?_,rfl⟩,rfl,rfl,rfl,(fun _ h=>by cases h),by simp,⟨by simp [ints],(by show (0:Int)<=((0:Nat):Int);decide),(by show ((0:Nat):Int) < ((1:Nat):Int);decide),(by show ((1:Nat):Int)<=16777215;decide),fun x hx=>by simp [ints] at hx,by simp [ints]⟩,(fun _ h=>by cases h),by simp⟩,rfl,rfl,fun t hm ho=>OO c1 _ hm ho,rfl,rfl⟩
 ·show (kV _ _).used<=_;omega
 ·show (kV _ _).fs.length<=_;omega
 ·show (kV _ _).get fC=none
  rw [o4 _ (.inr (by decide)),o1 _ (pG _).symm]
  rfl
 ·show (kV _ _).get (wnm 0)=some _
  rw [o4 _ (.inl (List.mem_cons_self ..)),g1]
def pJ:BF:=⟨116,[0,2,3,5,6,7,8,9,10,11,13,14,16,22,26,27,28,29,56,62,87,102,103,104,105],(.seq (.reg [mvS 1 (.mv (.const (.int .i64 0)))]) (.seq (.seq (.reg [ceS 17 0,nlE 18 17,faE 19 5 18,ldE 20 19,lnE 21 20,mvS 13 (.bin .eql .no (eV 21) (.const (.int .i64 0)))]) (.cond (sL 13) (.seq (.reg [mvS 1 (.mv (.const (.int .i64 0)))]) .ret) .skip)) (.seq (.reg [mvS 2 (.mv (.const .ae))]) (.seq (.seq (.reg [ceS 23 0,nlE 24 23,faE 25 5 24,mvS 14 (.ld1 (eV 25)),mvS 15 (.ah (sL 14)),mvS 16 (.mv (.const (.int .i64 0)))]) (.block 0 (.loop (.seq (.reg [mvS 17 (.bin .lss .no (sL 16) (sL 15))]) (.seq (.cond (sL 17) .skip (.exit 0)) (.seq (.block 1 (.seq (.reg [mvE 30 (.aP 1 (sL 14) (sL 16)),ldE 31 30,csE 3 31]) (.reg [ceS 32 2,ceS 33 3,clE 34 86 [eV 33],efE 35 (.aF 1 1 [.ae] [(0,1,(eV 34))]),efE 36 (.append 1 24 (eV 32) (eV 35)),csE 2 36]))) (.reg [mvE 37 (.bin .add .no (sL 16) (.const (.int .i64 1))),csE 16 37]))))))) (.seq (.reg [ceS 38 0,nlE 39 38,faE 40 2 39,faE 41 2 40,ldE 42 41,csE 4 42]) (.seq (.reg [ceS 43 0,nlE 44 43,faE 45 2 44,faE 46 1 45,ldE 47 46,ceS 48 4,mvE 49 (.bin .add .no (eV 48) (.const (.int .i64 1))),mvE 50 (.bld [.ae,(.int .i64 0),(.int .i64 0)] [(1,1,(eV 47)),(2,1,(eV 49))]), .mk none (.slot 5) (.eff (.alloc [.ae,(.int .i64 0),(.int .i64 0)])), .mk none .none (.eff (.store 3 (sL 5) (eV 50)))]) (.seq (.reg [mvS 6 (.mv (.const .ae))]) (.seq (.seq (.reg [ceS 51 2,clE 52 88 [eV 51],clE 53 87 [eV 52],csE 7 53]) (.seq (.reg [ceS 54 7,lnE 55 54,mvS 18 (.bin .gtr .no (eV 55) (.const (.int .i64 0)))]) (.cond (sL 18) (.seq (.seq (.reg [ceS 57 0,ceS 58 4,ceS 59 7,clE 60 80 [eV 57,eV 58,eV 59],csE 8 60]) (.seq (.reg [ceS 61 8,mvS 19 (.bin .neq .no (eV 61) (.const (.int .i64 0)))]) (.cond (sL 19) (.seq (.reg [ceS 63 8,csE 1 63]) .ret) .skip))) (.seq (.reg [ceS 65 0,nlE 66 65,faE 67 0 66,ldE 68 67,ceS 69 4,clE 70 73 [eV 68,eV 69],ceE 64 70,exE 71 0 64,exE 72 1 64,csE 9 71,ceE 12 72]) (.reg [ceS 73 6,ceS 74 9,efE 75 (.aF 1 1 [.bU] [(0,1,(eV 74))]),efE 76 (.append 1 8 (eV 73) (eV 75)),ceS 77 4,efE 78 (.aF 1 1 [(.int .i64 0)] [(0,1,(eV 77))]),csE 6 76,mvE 79 (.aG 0 (sL 5)), .mk none .none (.eff (.store 1 (eV 79) (eV 78)))]))) .skip))) (.seq (.seq (.iC [(ceS 80 0,[]),(nlE 81 80,[]),(faE 82 0 81,[]),(ldE 83 82,[]),(mvE 84 (.ldn 3 (sL 5)),[]),(clE 85 82 [eV 83,eV 84],[]),(csE 10 85,[])]) (.seq (.reg [ceS 86 10,mvS 20 (.bin .neq .no (eV 86) (.const (.int .i64 0)))]) (.cond (sL 20) (.seq (.reg [ceS 88 10,csE 1 88]) .ret) .skip))) (.seq (.reg [ceS 89 0,nlE 90 89,faE 91 2 90,faE 92 0 91,ldE 93 92,csE 11 93]) (.seq (.reg [ceS 94 0,ceS 95 0,mvE 96 (.ldn 3 (sL 5)),ceS 97 6,nlE 98 94,faE 99 2 98, .mk none .none (.eff (.store 3 (eV 99) (eV 96))),nlE 100 95,faE 101 5 100, .mk none .none (.eff (.store 1 (eV 101) (eV 97)))]) (.seq (.seq (.reg [mvS 21 (.mv (sL 11)),mvS 22 (.ah (sL 21)),mvS 23 (.mv (.const (.int .i64 0)))]) (.block 2 (.loop (.seq (.reg [mvS 24 (.bin .lss .no (sL 23) (sL 22))]) (.seq (.cond (sL 24) .skip (.exit 2)) (.seq (.block 3 (.seq (.reg [mvE 106 (.aP 1 (sL 21) (sL 23)),ldE 107 106,csE 12 107]) (.iC [(ceS 108 0,[]),(nlE 109 108,[]),(faE 110 0 109,[]),(ldE 111 110,[]),(ceS 112 12,[]),(clE 113 89 [eV 112],[0,1,2,3]),(clE 114 85 [eV 111,eV 113],[])]))) (.reg [mvE 115 (.bin .add .no (sL 23) (.const (.int .i64 1))),csE 23 115]))))))) (.seq (.reg [mvS 1 (.mv (.const (.int .i64 0)))]) .ret))))))))))))),[.slot (sL 1)]⟩
theorem Xr {X:Type} {e:En} {t:List AV} {h:Hp X} {z0 z1 z2:AV} {x z:Od} {a c:AV} (hx:x.ev e t=a) (hz:z.ev e t=c) (ha:cellsOf a=some [a]) (hc:cellsOf c=some [c]):
  (Mv.bld [z0,z1,z2] [(1,1,x),(2,1,z)]).ev e t h=some (.agg [z0,a,c]):=by
 simp only [Mv.ev,List.map,hx,hz,fillA,ha,hc]
 rfl
theorem OQ (m:MD) (s:List UInt8):(m.remove s).2.fs.length<=m.fs.length:=by
 unfold MD.remove
 split
 ·exact Nat.le_refl _
 ·split
  ·rw [MD.bT];exact Nat.le_refl _
  ·exact MD.length_drop ..
theorem Ae:∀(ns:List Bs) (x:MD),(iJ x ns).fs.length<=x.fs.length
 |[],_=>Nat.le_refl _
 |n::ns,x=>Nat.le_trans (Ae ns (x.remove n).2) (OQ x n)
theorem Af (x:MD) (ns:List Bs) (n:Bs):iJ x (ns++[n])=((iJ x ns).remove n).2:=by unfold iJ;rw [List.foldl_append];rfl
structure KwM (E:Nat->Option (Ent MD)):Prop extends KwF E where
 ZV:E 45=some (.bc pJ)
structure acA (h hh:Hp MD) (K:KS) (x1:MD) (ns:List Nat) (tabs:List (List EM)) (gS:Nat) (lv tv:AV):Prop where
 eqm:rV K=uP K ns tabs (fZ x1 (ints ns) K.w (K.nx+1:Nat))
 bx:Bx hh gS [lv,niv K.w,niv (K.nx+1)]
 g0:h.n<=gS
 rs:RS hh 1 lv ns.length (ns.map niv)
 nlo:∀k,blk lv k->h.n<=k
 tb:Tabs hh tv tabs (fun k=>h.n<=k)
 one:ns.length<=1
 fl:x1.fs.length<=K.x.fs.length+1
theorem Tabs.nil {h:Hp MD} {R:Nat->Prop}:Tabs h .ae [] R:=⟨[],⟨rfl,rfl⟩,fun k q=>q.elim,fun i l q=>by simp at q⟩
section
variable {E:Nat->Option (Ent MD)}
set_option maxHeartbeats 16000000 in
theorem OT (hE:∀f e,E f=some e->e.plain) (T:KwM E) {h:Hp MD} {db gd:Nat} {each:Bool} {K:KS} {W F:Nat->Prop} (D:DbH h db gd each K W F) (ok:KOK K) (mm:MZ K):
  WF (lim E) 45 [.ptr db 0] h fun r h'=>r= .int .i64 (rV K).1/\Did h h' db gd each (rV K).2 W F:=by
 obtain ⟨gl,gm,vm,vt,vn,Fm,R,D,hw,hrr,hff⟩:=D.out
 obtain ⟨tc,t1,t2,t3⟩:=D.tabs.out
 have DW:∀{h'} {K'},DbR h' db gd gl gm vm vt vn Fm R each K'->Keep (az gd) h h'->Did h h' db gd each K' W F:=fun {h' K'} d k=>⟨W,⟨gl,gm,vm,vt,vn,Fm,R,d,hw,fun k q=> .inl (hrr k q),fun k q=> .inl (hff k q)⟩,k.mono (fun g _ q=>(hw g).2 (.inr (.inl q))),fun k q=> .inl q⟩
 have hmx:(maxLen:Nat)=9223372036854775807:=rfl
 have hfl:=mm.fl
 have hnx:=mm.nx
 have hns:=mm.ns
 have hlen:=ok.len
 refine aC hE T.ZV rfl ?_
 simp only [pJ,mvE,mvS,clE,efE,ceS,ceE,csE,faE,nlE,ldE,lnE,exE,eV,sL,kI,List.map,getS]
 by_cases h0:K.tabs=[]
 ·have e0:K.tabs.length=0:=by rw [h0];rfl
  rw [e0] at t1
  repeat first|refine ZA ?_|refine BV (ak rfl) ?_|refine BV (au D.bx rfl rfl) ?_|refine BV (t1.ah (by rfl)) ?_|refine BP ?_|refine BQ ?_
  unfold rV
  rw [if_pos h0]
  exact ⟨rfl,DW D (Keep.refl _ _)⟩
 have hp:K.tabs.length≠0:=fun q=>h0 (List.eq_nil_of_length_eq_zero q)
 repeat first|refine ZA ?_|refine BV (ak rfl) ?_|refine BV (au D.bx rfl rfl) ?_|refine BV (t1.ah (by rfl)) ?_|refine BP ?_|refine BQ ?_
 refine aQ (fun q t g=>∃(rv s3 s17:AV) (j:Nat),j<=K.tabs.length/\q=K.tabs.length - j/\Keep NoB h g/\OB g rv (K.tabs.take j) h.n (fun k=>h.n<=k)/\t=[.ptr db 0, .int .i64 0,rv,s3, .bot, .bot, .bot, .bot, .bot, .bot, .bot, .bot, .bot, .bool false,vt, .int .i64 K.tabs.length, .int .i64 j,s17, .bot, .bot, .bot, .bot, .bot, .bot, .bot]) ?_ K.tabs.length _ _ ⟨.ae,_,_,0,by omega,by omega,Keep.refl _ _,OB.nil,rfl⟩
 rintro q t g ⟨rv,s3,s17,j,hj,hq,Kp,B,rfl⟩
 have gn:=Kp.n
 by_cases hlt:j < K.tabs.length
 ·obtain ⟨gt,g1,g2,g3⟩:=t3 j _ (List.getElem?_eq_getElem hlt)
  obtain ⟨ga,oa,pa,la⟩:=(t1.up Kp).at2 hlt
  have la:∀{e:En} {t:List AV} {x:Od},x.ev e t= .ptr ga oa->(Mv.ld1 x).ev e t g=some (.ptr gt 0):=fun hx=>(la (S:=NoB) (Keep.refl _ _) (fun _ _ q=>q) hx).trans g1
  have lm:K.tabs[j]∈K.held::K.tabs:=List.mem_cons_of_mem _ (List.getElem_mem _)
  repeat first|refine ZA ?_|refine BV (pa rfl rfl) ?_|refine BV (la rfl) ?_|refine BP ?_|refine BQ ?_
  refine ag rfl ((Xi hE T.p.toKtT (g3.up Kp) (ok.rows _ lm)).mono fun r g4 ⟨k4,o4⟩=> ?_)
  rw [wH (ok.nrm _ lm)] at o4
  have B4:=B.up k4
  have k4n:=k4.n
  obtain ⟨cells,c1,c2,c3⟩:=B4.next (o4.oM.on (fun k (z:_\/_)=>⟨by rcases z with z|z<;>omega,fun z2=>by have:=B.lt k z2;rcases z with z|z<;>omega⟩)) (by omega)
  rw [List.length_take,Nat.min_eq_left hj] at c1 c3
  repeat first|refine ZA ?_|refine BW (dO (c:=r) rfl o4.one.1 o4.one.2) ?_|refine BP ?_|refine BQ ?_
  refine aA rfl rfl c1 Nat.zero_lt_one c2 (by omega) (by omega) fun v' h4 z1 z2 z3=> ?_
  obtain ⟨B5,K5⟩:=c3 v' h4 z1 z2 z3
  repeat first|refine ZA ?_|refine BP ?_|refine BQ ?_
  refine aj (K.tabs.length - (j+1)) (by omega) ⟨v',_,_,j+1,by omega,rfl,(Kp.and k4).trans K5 (fun k y1 y2=>by have:=B.lo k y2;omega), ?_,rfl⟩
  rw [take_snoc (List.getElem?_eq_getElem hlt)]
  exact B5
 ·obtain rfl:j=K.tabs.length:=by omega
  rw [List.take_length] at B
  have hB:=B.Zr (G:=fun _=>True) (fun _ _ _=>trivial) (fun _ _=>trivial)
  have hjl:=mm.join
  have Dg:=D.up Kp
  have ris:∀r∈K.tabs,dI r:=fun r hr=>(ok.rows r (List.mem_cons_of_mem _ hr)).ris
  repeat first|refine ZA ?_|refine BV (ak rfl) ?_|refine BV (au Dg.bx rfl rfl) ?_|refine BV (Xr rfl rfl rfl rfl) ?_|refine BW (aV aH rfl rfl rfl rfl (Nat.le_refl _)) ?_|refine BP ?_|refine BQ ?_
  obtain ⟨g1,hg1⟩:∃g1:Hp MD,g1=(g.push (.rw [.ae, .int .i64 0, .int .i64 0])).put g.n (.rw [.ae,niv K.w,niv (K.nx+1)]):=⟨_,rfl⟩
  have b1:Bx g1 g.n [.ae,niv K.w,niv (K.nx+1)]:=by rw [hg1];exact Bx.put aH
  have k1:Keep NoB g g1:=by
   rw [hg1]
   exact (Keep.push NoB g _).own (Keep.put (S:=az g.n) _ _ _ rfl) (fun k q=>by have q:k=g.n:=q;omega)
  have n1:g1.n=g.n+1:=by rw [hg1];rfl
  refine aJ (h':=g1) (by rw [hg1];first|done|rfl) ?_
  clear hg1
  have hsz:∀r∈K.tabs,∀e∈r,szE e:=fun r hr e he=>(ok.rows r (List.mem_cons_of_mem _ hr)).sz e he
  refine ag rfl ((MM hE T.p.toKgT (hB.up k1) ris hsz (by omega) hjl).mono fun w g3 ⟨k3,o3⟩=> ?_)
  repeat first|refine ZA ?_|refine BP ?_|refine BQ ?_
  have hsz2:∀e∈joinL K.tabs,szE e:=fun e he=>by
   obtain ⟨r,hr,x,hx,rfl⟩:=qy he
   exact Fb (hsz r hr x hx)
  refine ag rfl ((MN hE T.p.toKgT o3.oM (by omega) hsz2).mono fun w2 g4 ⟨k4,o4⟩=> ?_)
  have e4:(aY (joinL K.tabs)).map EM.own=aY (joinL K.tabs):=wH fun e he=>xu e (List.mem_filter.1 he).1
  rw [e4] at o4
  have hmo:=mm.most
  have hta:=mm.tab
  have hLl:(aY (joinL K.tabs)).length<=(joinL K.tabs).length:=List.length_filter_le _ _
  have eqm:rV K=if aY (joinL K.tabs)=[] then uP K [] [] (fZ K.x (ints []) K.w (K.nx+1:Nat)) else Fh K (aY (joinL K.tabs)) (qx K.x K.nx (aY (joinL K.tabs))):=by unfold rV;rw [if_neg h0]
  generalize aY (joinL K.tabs)=L at*
  obtain ⟨tri,hr4,htl,hq4,_⟩:=o4.oM.out
  have k34:=(k1.and k3).and k4
  have b4:=(b1.up k3).up k4
  have D4:=Dg.up k34
  have K4:=Kp.and k34
  have n3:=k3.n
  have n4:=k4.n
  repeat first|refine ZA ?_|refine BV (hr4.ah (by rfl)) ?_|refine BP ?_|refine BQ ?_
  refine uK (fun t' hh=>∃(x1:MD) (ns:List Nat) (tabs:List (List EM)) (lv tv s8 s9 s12 s19:AV),acA h hh K x1 ns tabs g.n lv tv/\DbR hh db gd gl gm vm vt vn Fm R each {K with x:=x1}/\Keep (az gd) h hh/\t'=[.ptr db 0, .int .i64 0,rv,s3, .int .i64 K.nx, .ptr g.n 0,tv,w2,s8,s9, .bot, .bot,s12, .bool false,vt, .int .i64 K.tabs.length, .int .i64 K.tabs.length, .bool false, .bool (decide ((L.length:Int) > 0)),s19, .bot, .bot, .bot, .bot, .bot]) ?_ ?_
  ·by_cases hL:L=[]
   ·have hl0:L.length=0:=by rw [hL];rfl
    refine AG rfl (decide_eq_false (by omega)) ?_
    repeat first|refine ZA ?_|refine BP ?_|refine BQ ?_
    rw [if_pos hL] at eqm
    exact bK ⟨K.x,[],[], .ae, .ae,_,_,_,_,⟨eqm,b4,gn,⟨rfl,rfl⟩,fun k q=>q.elim,Tabs.nil,by simp,by omega⟩,D4,K4.any,rfl⟩
   ·have hl0:L.length≠0:=fun q=>hL (List.eq_nil_of_length_eq_zero q)
    have hmo:=hmo hL
    have hta:=hta hL
    rw [if_neg hL] at eqm
    refine AF rfl (decide_eq_true (by omega)) ?_
    repeat first|refine ZA ?_|refine BP ?_|refine BQ ?_
    refine ag rfl ((TJ hE T.toKwT D4 hfl (by omega) o4.oM (fun k (q:_\/_)=>by have:=D.dk.lt;rcases q with q|q<;>omega) hmo).mono fun r h5 ⟨e5,D5,k5⟩=> ?_)
    subst e5
    have K5:Keep (az gd) h h5:=K4.any.trans k5 (fun _ _ q=>q)
    have hl1:=TN K.x K.nx L
    obtain ⟨A,hA⟩:∃A,A=qx K.x K.nx L:=⟨_,rfl⟩
    rw [<-hA] at D5 hl1 hta eqm
    rw [<-hA]
    clear hA
    obtain ⟨ec,x1⟩:=A
    simp only at D5 hl1 hta eqm ⊢
    unfold Fh at eqm
    by_cases q1:ec≠0
    ·rw [if_pos q1] at eqm
     rw [eqm]
     repeat first|refine ZA ?_|refine BP ?_|refine BQ ?_
     refine LZ ?_
     repeat first|refine ZA ?_|refine BP ?_|refine BQ ?_
     exact ⟨rfl,DW D5 K5⟩
    have q1:ec=0:=by omega
    subst q1
    rw [if_neg (by simp)] at eqm
    obtain ⟨f,hf1,hf2⟩:=hta rfl
    repeat first|refine ZA ?_|refine BV (ak rfl) ?_|refine BV (au D5.bx rfl rfl) ?_|refine BP ?_|refine BQ ?_
    refine ag rfl ((zU hE T.toKwT D5.dk (by show x1.fs.length<=_;omega) (by omega) hf1 hf2 hmo).mono fun r h6 ⟨k6,gt,e6,m6,l6⟩=> ?_)
    subst e6
    have D6:=D5.up k6
    have b6:=(b4.keep k5 (fun q=>by have q:g.n=gd:=q;have:=D.dk.lt;omega)).up k6
    have n5:=k5.n
    have n6:=k6.n
    have lgt:gt < h6.n:=by obtain ⟨_,z,_⟩:=m6.out;exact z.lt
    repeat first|refine ZA ?_|refine BW (dO (c:= .ptr gt 0) rfl rfl rfl) ?_|refine BP ?_|refine BQ ?_
    have o0:OS (h6.push (.rw [.ptr gt 0])) 1 .ae 0 []:=⟨rfl,rfl⟩
    refine aA rfl rfl o0 Nat.zero_lt_one (bH (n:=1) rfl) (by omega) (by omega) fun tv h8 o8 k8 b8=> ?_
    have k8:Keep NoB h6 h8:=(Keep.push NoB h6 _).trans k8 (fun k _ q=>q.elim)
    have l8:∀k,blk tv k->h6.n < k:=fun k q=>by
     rcases b8 k q with q|q
     ·exact q.elim
     ·simp only [bJ] at q;omega
    have n8:=k8.n
    repeat first|refine ZA ?_|refine BW (dO (c:=niv K.nx) rfl rfl rfl) ?_|refine BP ?_|refine BQ ?_
    obtain ⟨h9,hh9⟩:∃h9:Hp MD,h9=h8.push (.rw [niv K.nx]):=⟨_,rfl⟩
    have k9:Keep NoB h8 h9:=by rw [hh9];exact Keep.push _ _ _
    have n9:h9.n=h8.n+1:=by rw [hh9];rfl
    have r9:RS h9 1 (.slice 1 h8.n 0 1 (some 1)) 1 [niv K.nx]:=by rw [hh9];exact bH (n:=1) rfl
    refine aJ (h':=h9) (by rw [hh9];first|done|rfl) ?_
    clear hh9
    have k69:=k8.and k9
    have b9:=b6.up k69
    have hg9:=b9.lt
    have zX:∀{e:En} {t:List AV} {x y:Od},x.ev e t= .ptr g.n 0->y.ev e t= .slice 1 h8.n 0 1 (some 1)->(Ef.store 1 x y).ev e t h9=some (.bot,h9.put g.n (.rw [.slice 1 h8.n 0 1 (some 1),niv K.w,niv (K.nx+1)])):=fun hx hy=>fQ b9 hx hy ⟨rfl,rfl⟩ (by simp)
    repeat first|refine ZA ?_|refine BW (zX rfl rfl) ?_|refine BP ?_|refine BQ ?_
    have kp:Keep (az g.n) h9 (h9.put g.n (.rw [.slice 1 h8.n 0 1 (some 1),niv K.w,niv (K.nx+1)])):=Keep.put _ _ _ rfl
    have kq:Keep NoB g4 g4:=Keep.refl _ _
    have ldg:=D.dk.lt
    have ldb:=D.bx.lt
    have own:Keep (az gd) h (h9.put g.n (.rw [.slice 1 h8.n 0 1 (some 1),niv K.w,niv (K.nx+1)])):=((K5.and k6).and k69).on kp fun k q=> .inl (by have q:k=g.n:=q;omega)
    have D9:=D.disk own ((D6.dk.up k69).keep kp (fun q=>by have q:gd=g.n:=q;omega))
    refine bK ⟨x1,[K.nx],[L],_,tv,_,_,_,_,⟨eqm,b9.put,gn,r9.keep kp (fun k q1 q2=> ?_),fun k q=> ?_, ?_,by simp,hl1⟩,D9,own,rfl⟩
    ·have q1:k=h8.n:=q1
     have q2:k=g.n:=q2
     omega
    ·have q:k=h8.n:=q
     omega
    ·refine ⟨[.ptr gt 0], ?_,fun k q=> ?_,fun i l hi=> ?_⟩
     ·exact ((o8.rs.up k9).keep kp (fun k q1 q2=>by have:=l8 k q1;have q2:k=g.n:=q2;omega))
     ·have:=l8 k q;omega
     ·cases i with
      |succ i=>simp at hi
      |zero=>
       have hi:L=l:=by simpa using hi
       subst hi
       exact ⟨gt,rfl,by omega,((m6.lt.up k69).keep kp (fun q=>by have q:gt=g.n:=q;omega) (fun k q1 q2=>by have q2:k=g.n:=q2;omega)).on fun k q=>by omega⟩
  ·rintro t' hh ⟨x1,ns,tabs,lv,tv,s8,s9,s12,s19,M,D1,K1,rfl⟩
   rw [M.eqm]
   have r1:RS hh 1 lv (ints ns).length ((ints ns).map iv):=by
    rw [Fa,show (ints ns).length=ns.length by simp [ints]]
    exact M.rs
   have ldb:=D.bx.lt
   have ldg:=D.dk.lt
   have n1':=K1.n
   have hall:allOne [lv,niv K.w,niv (K.nx+1)]=true:=aX M.rs.one.2 rfl rfl
   have Qj:=M.fl
   repeat first|refine ZI ?_|refine CB (ak rfl) ?_|refine CB (au D1.bx rfl rfl) ?_|refine CB (dh M.bx rfl (Nat.le_refl _)) ?_|refine BV (ak rfl) ?_|refine BV (au D1.bx rfl rfl) ?_|refine BV (dh M.bx rfl (Nat.le_refl _)) ?_|refine BP ?_|refine BQ ?_|refine CC ?_
   refine bF rfl ((Hg hE T.m D1.dk (by show x1.fs.length<=_;omega) r1 (w:=(K.w:Nat)) (n:=(K.nx+1:Nat)) (by have:=M.one;simp [ints];omega)).mono fun r h10 ⟨e10,o10,k10⟩=> ?_)
   subst e10
   refine ⟨aW, ?_⟩
   have D10:=D1.disk k10 o10
   have K10:Keep (az gd) h h10:=K1.trans k10 (fun _ _ q=>q)
   have b10:=M.bx.keep k10 (fun q=>by have q:g.n=gd:=q;omega)
   have abx:=M.rs.keep k10 (fun k z1 z2=>by have:=M.nlo k z1;have z2:k=gd:=z2;omega)
   have acB:=M.tb.keep k10 (fun k z1 z2=>by have z2:k=gd:=z2;omega)
   simp only at D10
   have hl3:=Iq x1 (ints ns) K.w (K.nx+1:Nat)
   unfold uP
   obtain ⟨A,hA⟩:∃A,A=fZ x1 (ints ns) K.w (K.nx+1:Nat):=⟨_,rfl⟩
   rw [<-hA] at D10 hl3
   rw [<-hA]
   clear hA
   obtain ⟨ec,x3⟩:=A
   simp only at D10 hl3 ⊢
   by_cases q3:ec≠0
   ·repeat first|refine ZI ?_|refine BP ?_|refine BQ ?_|refine CC ?_
    rw [if_pos q3]
    exact ⟨rfl,DW D10 K10⟩
   have q3:ec=0:=by omega
   subst q3
   rw [if_neg (by simp)]
   obtain ⟨uc,u1,u2,u3⟩:=acB.out
   repeat first|refine ZI ?_|refine BP ?_|refine BQ ?_|refine CC ?_
   have MS:∀{e:En} {t:List AV} {x y:Od},x.ev e t= .ptr db 2->y.ev e t= .agg [lv,niv K.w,niv (K.nx+1)]->(Ef.store 3 x y).ev e t h10=some (.bot,h10.put db (.rw [.ptr gd 0, .bool each,lv,niv K.w,niv (K.nx+1),vt, .ptr gl 0, .ptr gm 0])):=fun hx hy=>aV D10.bx hx hy hall rfl (by simp)
   have d11:Bx (h10.put db (.rw [.ptr gd 0, .bool each,lv,niv K.w,niv (K.nx+1),vt, .ptr gl 0, .ptr gm 0])) db [.ptr gd 0, .bool each,lv,niv K.w,niv (K.nx+1),vt, .ptr gl 0, .ptr gm 0]:=D10.bx.put
   have Yk:∀{e:En} {t:List AV} {x y:Od},x.ev e t= .ptr db 5->y.ev e t=tv->(Ef.store 1 x y).ev e t (h10.put db (.rw [.ptr gd 0, .bool each,lv,niv K.w,niv (K.nx+1),vt, .ptr gl 0, .ptr gm 0]))=some (.bot,(h10.put db (.rw [.ptr gd 0, .bool each,lv,niv K.w,niv (K.nx+1),vt, .ptr gl 0, .ptr gm 0])).put db (.rw [.ptr gd 0, .bool each,lv,niv K.w,niv (K.nx+1),tv, .ptr gl 0, .ptr gm 0])):=fun hx hy=>fQ d11 hx hy u1.one (by simp)
   repeat first|refine ZA ?_|refine BV (ak rfl) ?_|refine BV (au D10.bx rfl rfl) ?_|refine BV (dh b10 rfl (Nat.le_refl _)) ?_|refine BW (MS rfl rfl) ?_|refine BW (Yk rfl rfl) ?_|refine BP ?_|refine BQ ?_
   obtain ⟨hS,hhS⟩:∃hS:Hp MD,hS=(h10.put db (.rw [.ptr gd 0, .bool each,lv,niv K.w,niv (K.nx+1),vt, .ptr gl 0, .ptr gm 0])).put db (.rw [.ptr gd 0, .bool each,lv,niv K.w,niv (K.nx+1),tv, .ptr gl 0, .ptr gm 0]):=⟨_,rfl⟩
   have kS:Keep (az db) h10 hS:=by rw [hhS];exact (Keep.put (S:=az db) h10 db _ rfl).trans (Keep.put (S:=az db) _ db _ rfl) (fun _ _ q=>q)
   have dS:Bx hS db [.ptr gd 0, .bool each,lv,niv K.w,niv (K.nx+1),tv, .ptr gl 0, .ptr gm 0]:=by rw [hhS];exact d11.put
   have nS:hS.n=h10.n:=by rw [hhS];rfl
   refine aJ (h':=hS) (by rw [hhS];first|done|rfl) ?_
   clear hhS
   obtain ⟨p1,p2,p3,p4,p5,p6,p7,p8,p9⟩:=D.ap
   have n10:=K10.n
   have nR:∀k,R k->¬az db k:=fun k z q=>(D.ro k z).2.1 q
   have nsS:=D10.ns.keep kS (fun k z=>nR k (D10.rns k z))
   have DS:DbR hS db gd gl gm vm tv lv Fm (fun k=>h.n<=k/\k < h10.n) each {K with x:=x3,ns:=ns,nx:=K.nx+1,tabs:=tabs}:=by
    refine ⟨dS,D10.dk.keep kS (fun q=>p1 q.symm),D10.log.keep kS (fun q=>p2 q.symm),D10.mem.keep kS (fun q=>p3 q.symm) (fun j q1 q2=>p4 (by have q2:j=db:=q2;rw [<-q2];exact q1)) (fun j q1 _ q2=>(D.fm j q1).1 q2),abx.keep kS (fun k z1 z2=>by have:=M.nlo k z1;have z2:k=db:=z2;omega), ?_,fun k z=>⟨M.nlo k z,abx.lt k z⟩,fun k z=> ?_,D.fm,D.ap⟩
    ·refine ⟨uc,u1.keep kS (fun k z1 z2=>by have:=u2 k z1;have z2:k=db:=z2;omega),fun k z=>⟨u2 k z,u1.lt k z⟩,fun i l hi=> ?_⟩
     obtain ⟨gt,y1,y2,y3⟩:=u3 i l hi
     have lgt:gt < h10.n:=by obtain ⟨_,z,_⟩:=y3.out;exact z.lt
     exact ⟨gt,y1,⟨y2,lgt⟩,y3.lt.keep kS (fun q=>by have q:gt=db:=q;omega) (fun k z1 z2=>by have z2:k=db:=z2;omega)⟩
    ·have ll:=D.log.lt
     have lm:=D.mem.lt
     exact ⟨by omega,by omega,by omega,by omega,by omega,fun q=>by have:=(lm.2 k q).1;omega⟩
   have KS:Keep (fun k=>k=db\/k=gd) h hS:=(K10.mono (fun _ _ q=> .inr q)).trans kS (fun _ _ q=> .inl q)
   clear kS D10 d11 MS Yk
   repeat first|refine ZA ?_|refine BV (nsS.ah (by rfl)) ?_|refine BP ?_|refine BQ ?_
   refine aQ (fun q t g5=>∃(s12 s24:AV) (j:Nat),j<=K.ns.length/\q=K.ns.length - j/\Keep (az gd) hS g5/\Ob g5 gd (iJ x3 ((K.ns.take j).map tnm))/\t=[.ptr db 0, .int .i64 0,rv,s3, .int .i64 K.nx, .ptr g.n 0,tv,w2,s8,s9, .int .i64 0,vn,s12, .bool false,vt, .int .i64 K.tabs.length, .int .i64 K.tabs.length, .bool false, .bool (decide ((L.length:Int) > 0)),s19, .bool false,vn, .int .i64 K.ns.length, .int .i64 j,s24]) ?_ K.ns.length _ _ ⟨_,_,0,by omega,by omega,Keep.refl _ _,DS.dk,rfl⟩
   rintro q t g5 ⟨s12',s24,j,hj,hq,K5,o5,rfl⟩
   have ns5:=nsS.keep K5 (fun k z1 z2=>(D.ro k (D.rns k z1)).2.2.1 z2)
   have d5:=dS.keep K5 p1
   have hfr:=Ae ((K.ns.take j).map tnm) x3
   by_cases hlt:j < K.ns.length
   ·obtain ⟨ga,oa,pa,la⟩:=ns5.at2 (i:=j) (by omega)
    have la:∀{e:En} {t:List AV} {x:Od},x.ev e t= .ptr ga oa->(Mv.ld1 x).ev e t g5=some (niv K.ns[j]):=fun hx=>(la (S:=NoB) (Keep.refl _ _) (fun _ _ q=>q) hx).trans (by rw [List.getElem?_map,List.getElem?_eq_getElem hlt];rfl)
    have hnb:=mm.nb K.ns[j] (List.getElem_mem _)
    repeat first|refine ZA ?_|refine BV (pa rfl rfl) ?_|refine BV (la rfl) ?_|refine BP ?_|refine BQ ?_
    repeat first|refine ZI ?_|refine CB (ak rfl) ?_|refine CB (au d5 rfl rfl) ?_|refine BV (ak rfl) ?_|refine BV (au d5 rfl rfl) ?_|refine BP ?_|refine BQ ?_|refine CC ?_
    refine bF rfl ((vV hE T.tn T.dg hnb).mono fun r h6 ⟨e6,e7⟩=> ?_)
    subst e6 e7
    refine ⟨(by (try simp only [List.nil_append,List.cons_append]);repeat first|exact aW|(apply iR;(focus exact rfl);first|exact jq|(refine iT ?_;first|exact (ak rfl)|exact (au d5 rfl rfl)|exact rfl))), ?_⟩
    refine bF rfl ((nD hE T.rm o5 (by omega) (116::uI K.ns[j])).mono fun r h7 ⟨e7,o7,k7⟩=> ?_)
    refine ⟨aW, ?_⟩
    repeat first|refine ZI ?_|refine BP ?_|refine BQ ?_|refine CC ?_
    repeat first|refine ZA ?_|refine BP ?_|refine BQ ?_
    refine aj (K.ns.length - (j+1)) (by omega) ⟨_,_,j+1,by omega,rfl,K5.trans k7 (fun _ _ q=>q), ?_,rfl⟩
    rw [take_snoc (List.getElem?_eq_getElem hlt),List.map_append,List.map_singleton,Af]
    exact o7
   ·obtain rfl:j=K.ns.length:=by omega
    rw [List.take_length] at o5
    repeat first|refine ZA ?_|refine BP ?_|refine BQ ?_
    refine ⟨rfl,⟨W,⟨gl,gm,vm,tv,lv,Fm,_,DS.disk K5 o5,hw,fun k q=> .inr q.1,fun k q=> .inl (hff k q)⟩, ?_,fun k q=> .inl q⟩⟩
    exact (KS.mono (T:=W) (fun g _ q=>(hw g).2 (q.elim .inl (fun q=> .inr (.inl q))))).trans K5 (fun g _ q=>(hw g).2 (.inr (.inl q)))
end
end Am
end Go.Proofs.YtbnkdnlfdofepaaGreat
