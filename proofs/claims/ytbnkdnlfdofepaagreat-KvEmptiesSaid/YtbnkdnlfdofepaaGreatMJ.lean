/- Chapter 10: both ways to read a list tell the same. No program. Package manifest: Write, Read told. Numbers brought within bounds; layer 10's lists as they are made. Numbers as texts: manifest's and chapter 1's digits are the same. Chapter 4's own Put, All; layer 10's helpers. Layer 10's helpers: a fresh disk, a disk with a file; encodes, decodes. Layer 10: what its laws share. -/
import Derived.Test.YtbnkdnlfdofepaaGreatMI
import Derived.Test.YtbnkdnlfdofepaaGreatAm36
set_option linter.unusedVariables false
set_option linter.unusedSimpArgs false
namespace Go.Proofs.YtbnkdnlfdofepaaGreat
namespace Am
open Go.RowKit
set_option maxRecDepth 100000
def oG:BF:=⟨45,[0,1,3,4,5,6,7,9,10,11,18,21,30,36,41],(.seq (.reg [.mk none (.slot 2) (.eff (.box (sL 1))),mvS 3 (.mv (.const (.int .i64 0)))]) (.seq (.reg [mvE 13 (.ldn 3 (sL 2)),clE 14 127 [eV 13],ceE 12 14,exE 15 0 12,exE 16 1 12,csE 4 15,csE 5 16]) (.seq (.seq (.reg [ceS 17 5,mvS 10 (.bin .neq .no (eV 17) (.const (.int .i64 0)))]) (.cond (sL 10) (.seq (.reg [ceS 19 5,csE 3 19]) .ret) .skip)) (.seq (.seq (.reg [ceS 20 0,mvS 11 (.bin .eql .ptr (eV 20) (.const .bU))]) (.cond (sL 11) (.seq (.reg [mvS 3 (.mv (.const (.int .i64 1)))]) .ret) .skip)) (.seq (.reg [ceS 23 4,clE 24 106 [(.const .ae),eV 23],ceE 22 24,exE 25 0 22,exE 26 1 22,csE 6 25,ceE 8 26]) (.seq (.seq (.reg [ceS 27 0,clE 28 50 [eV 27,(.const (.str [110,101,119]))],csE 7 28]) (.seq (.reg [ceS 29 7,mvS 12 (.bin .neq .no (eV 29) (.const (.int .i64 0)))]) (.cond (sL 12) (.seq (.reg [ceS 31 7,csE 3 31]) .ret) .skip))) (.seq (.seq (.reg [ceS 32 0,ceS 33 6,clE 34 51 [eV 32,(.const (.str [110,101,119])),eV 33],csE 8 34]) (.seq (.reg [ceS 35 8,mvS 13 (.bin .neq .no (eV 35) (.const (.int .i64 0)))]) (.cond (sL 13) (.seq (.reg [ceS 37 8,csE 3 37]) .ret) .skip))) (.seq (.seq (.reg [ceS 38 0,clE 39 108 [eV 38,(.const (.str [110,101,119]))],csE 9 39]) (.seq (.reg [ceS 40 9,mvS 14 (.bin .neq .no (eV 40) (.const (.int .i64 0)))]) (.cond (sL 14) (.seq (.reg [ceS 42 9,csE 3 42]) .ret) .skip))) (.seq (.reg [ceS 43 0,clE 44 128 [eV 43,(.const (.str [110,101,119])),(.const (.str [108,105,115,116]))],csE 3 44]) .ret))))))))),[.slot (sL 3)]⟩
def rC:BF:=⟨53,[0,2,3,4,5,6,7,8,9,10,12,20,40,50],(.seq (.reg [.mk none (.slot 1) (.eff (.alloc [.ae,(.int .i64 0),(.int .i64 0)])),mvS 2 (.mv (.const (.bool false))),mvS 3 (.mv (.const (.int .i64 0)))]) (.seq (.seq (.reg [ceS 11 0,mvS 10 (.bin .eql .ptr (eV 11) (.const .bU))]) (.cond (sL 10) (.seq (.reg [mvE 13 (.bld [.ae,(.int .i64 0),(.int .i64 0)] []), .mk none .none (.eff (.store 3 (sL 1) (eV 13))),mvS 2 (.mv (.const (.bool false))),mvS 3 (.mv (.const (.int .i64 1)))]) .ret) .skip)) (.seq (.reg [ceS 15 0,clE 16 116 [eV 15,(.const (.str [108,105,115,116]))],ceE 14 16,exE 17 0 14,exE 18 1 14,csE 4 17,csE 5 18]) (.seq (.seq (.reg [ceS 19 5,mvS 11 (.jd (eV 19))]) (.cond (sL 11) (.seq (.reg [mvE 21 (.bld [.ae,(.int .i64 0),(.int .i64 0)] []), .mk none .none (.eff (.store 3 (sL 1) (eV 21))),mvS 2 (.mv (.const (.bool false))),mvS 3 (.mv (.const (.int .i64 0)))]) .ret) .skip)) (.seq (.reg [ceS 23 4,clE 24 117 [eV 23],ceE 22 24,exE 25 0 22,exE 26 1 22,exE 27 2 22,csE 6 25,csE 7 26,csE 8 27]) (.seq (.seq (.reg [ceS 28 8,mvE 29 (.bin .neq .no (eV 28) (.const (.int .i64 0))),ceE 30 29, .mk (some ((eV 30),false)) (.env 31) (.mov (.mv (sL 6))), .mk (some ((eV 30),false)) (.env 32) (.mov (.ah (eV 31))), .mk (some ((eV 30),false)) (.env 33) (.mov (.bin .neq .no (eV 32) (.const (.int .i64 1)))),mvE 34 (.pick (eV 30) (.const (.bool true)) (eV 33)),ceE 35 34, .mk (some ((eV 35),false)) (.env 36) (.mov (.mv (sL 7))), .mk (some ((eV 35),false)) (.env 37) (.mov (.mv (sL 4))), .mk (some ((eV 35),false)) (.env 38) (.mov (.ah (eV 37))), .mk (some ((eV 35),false)) (.env 39) (.mov (.bin .neq .no (eV 36) (eV 38))),mvS 12 (.pick (eV 35) (.const (.bool true)) (eV 39))]) (.cond (sL 12) (.seq (.reg [mvE 41 (.bld [.ae,(.int .i64 0),(.int .i64 0)] []), .mk none .none (.eff (.store 3 (sL 1) (eV 41))),mvS 2 (.mv (.const (.bool false))),mvS 3 (.mv (.const (.int .i64 14)))]) .ret) .skip)) (.seq (.reg [ceS 43 6,mvE 44 (.aP 1 (eV 43) (.const (.int .i64 0))),ldE 45 44,clE 46 118 [eV 45],ceE 42 46,exE 47 0 42,exE 48 1 42, .mk none (.slot 9) (.eff (.alloc [.ae,(.int .i64 0),(.int .i64 0)])), .mk none .none (.eff (.store 3 (sL 9) (eV 47))),csE 8 48]) (.seq (.seq (.reg [ceS 49 8,mvS 13 (.bin .neq .no (eV 49) (.const (.int .i64 0)))]) (.cond (sL 13) (.seq (.reg [mvE 51 (.bld [.ae,(.int .i64 0),(.int .i64 0)] []), .mk none .none (.eff (.store 3 (sL 1) (eV 51))),mvS 2 (.mv (.const (.bool false))),mvS 3 (.mv (.const (.int .i64 14)))]) .ret) .skip)) (.seq (.reg [mvE 52 (.ldn 3 (sL 9)), .mk none .none (.eff (.store 3 (sL 1) (eV 52))),mvS 2 (.mv (.const (.bool true))),mvS 3 (.mv (.const (.int .i64 0)))]) .ret))))))))),[.fG 3 (sL 1), .slot (sL 2), .slot (sL 3)]⟩
theorem jJ (m:MD) (s:Bs):(m.create s).2.fs.length<=m.fs.length+1:=by
 unfold MD.create
 split
 ·exact Nat.le_succ _
 ·split
  ·rw [MD.bT];exact Nat.le_succ _
  ·refine Nat.le_trans (MD.ql _ _) ?_
   rw [MD.bT];exact Nat.le_refl _
theorem oH (m:MD) (s b:Bs):(m.append s b).2.fs.length=m.fs.length:=by
 unfold MD.append
 split
 ·rfl
 ·split
  ·rw [MD.bT]
  ·exact MD.length_set _ _ _
theorem EC (m:MD) (s:Bs):(m.sync s).2.fs.length=m.fs.length:=by
 unfold MD.sync
 split
 ·rfl
 ·split
  ·rw [MD.bT]
  ·exact MD.length_set _ _ _
theorem Oe (m:MD) (a c:Bs):(m.rename a c).2.fs.length<=m.fs.length+1:=by
 unfold MD.rename
 split
 ·exact Nat.le_succ _
 ·split
  ·exact Nat.le_succ _
  ·split
   ·rw [MD.bT];exact Nat.le_succ _
   ·refine Nat.le_trans (MD.ql _ _) ?_
    have:=MD.length_drop m.fs a
    omega
def cu (b:List UInt8):List UInt8:=encB b.length 3++encB (b.length^^^16777215) 3++b
theorem oI (b:List UInt8):(cu b).length=6+b.length:=by simp [cu,aB];omega
theorem Rf (n:Nat):recC n=(encB n 3++encB (n^^^16777215) 3).map ub:=by
 unfold recC
 rw [jU,jU,List.map_append]
theorem LK {X:Type} {E:Nat->Option (Ent X)} (hE:∀f e,E f=some e->e.plain) (hf:E 106=some (.bc mW)) (hg:E 66=some (.bc fA)) (hc:E 112=some (.bc dD)) {h:Hp X} {v r:AV} {pre b:List UInt8} (hv:RS h 1 v pre.length (pre.map ub)) (hs:v≠ .bV) (hr:RS h 1 r b.length (b.map ub)) (hn:pre.length<=70368744177664) (hm:b.length<=1048576):
  WF (lim E) 106 [v,r] h fun x h'=>∃o,x= .tup [o, .int .i64 0]/\vO h h' o/\OS h' 1 o (pre++cu b).length ((pre++cu b).map ub):=by
 refine (QV hE hf hg hc hv hs hr hn hm).mono fun x h' ⟨o,e1,e2,e3⟩=>⟨o,e1,e2, ?_⟩
 rw [Rf] at e3
 have e:(pre++cu b).length=pre.length+6+b.length:=by rw [List.length_append,oI];omega
 rw [e]
 unfold cu
 simpa only [List.map_append,List.append_assoc] using e3
theorem ED:∀(k:Nat) (bs:List UInt8),∀r∈(allG k bs).1,r.length<=bs.length
 |0,bs,r,h=>by simp [allG] at h
 |k+1,bs,r,h=>by
  rw [allG] at h
  split at h
  ·simp at h
  ·split at h
   ·simp at h
   ·rcases List.mem_cons.1 h with rfl|h
    ·rw [List.length_take,List.length_drop];omega
    ·have:=ED k _ r h
     rw [List.length_drop] at this
     omega
def dP:List UInt8:=[110,101,119]
def fC:List UInt8:=[108,105,115,116]
noncomputable def fZ (x:MD) (l:List Int) (w n:Int):Int×MD:=
 if xm l w n=false then (1,x) else
 if (x.create dP).1≠0 then x.create dP else
 if ((x.create dP).2.append dP (cu (ou l w n))).1≠0 then (x.create dP).2.append dP (cu (ou l w n)) else
 if (((x.create dP).2.append dP (cu (ou l w n))).2.sync dP).1≠0 then ((x.create dP).2.append dP (cu (ou l w n))).2.sync dP else
 (((x.create dP).2.append dP (cu (ou l w n))).2.sync dP).2.rename dP fC
noncomputable def readF (o:Option (List UInt8)):Int×Option (List Int×Int×Int):=match o with
 |none=>(0,none)
 |some b=>if (allG (b.length+1) b).2.2=false\/(allG (b.length+1) b).1.length≠1\/(allG (b.length+1) b).2.1≠b.length then (14,none) else
  match Hf ((allG (b.length+1) b).1.getD 0 []) with
  |none=>(14,none)
  |some q=>(0,some q)
section
variable {E:Nat->Option (Ent MD)}
structure Zo (E:Nat->Option (Ent MD)):Prop extends MfE E,MfD E where
 aaQ:E 106=some (.bc mW)
 aaR:E 117=some (.bc qj)
 Rh:E 152=some (.bc gQ)
 create:E 50=some (.nat (jg MD.create))
 sync:E 108=some (.nat (jg MD.sync))
 append:E 51=some (.nat nV)
 rename:E 128=some (.nat qW)
 CJ:E 116=some (.nat qX)
 write:E 82=some (.bc oG)
 read:E 71=some (.bc rC)
theorem Hg (hE:∀f e,E f=some e->e.plain) (T:Zo E) {h:Hp MD} {g:Nat} {x:MD} (hg:Ob h g x) (hx:x.fs.length<=1000000) {v:AV} {l:List Int} {w n:Int} (hr:RS h 1 v l.length (l.map iv)) (hlen:l.length<=1000000):
  WF (lim E) 82 [.ptr g 0,LsV v w n] h fun r h'=>r= .int .i64 (fZ x l w n).1/\Ob h' g (fZ x l w n).2/\Keep (az g) h h':=by
 refine aC hE T.write rfl ?_
 simp only [oG,mvE,mvS,clE,efE,ceS,ceE,csE,faE,nlE,ldE,lnE,exE,eV,sL,kI,List.map,getS]
 have hmx:(maxLen:Nat)=9223372036854775807:=rfl
 refine AC (AD (vN (iD rfl (V9 hr.one.2)) rfl ?_))
 have K1:Keep NoB h (h.push (.rw [v, .int .i64 w, .int .i64 n])):=Keep.push _ _ _
 have hr1:=hr.up K1
 have hg1:=hg.up K1
 have hb1:Bx (h.push (.rw [v, .int .i64 w, .int .i64 n])) h.n [v, .int .i64 w, .int .i64 n]:=aH
 generalize h.push (.rw [v, .int .i64 w, .int .i64 n])=h1 at K1 hr1 hg1 hb1 ⊢
 simp only [setS]
 unfold fZ
 repeat first|refine ZA ?_|refine BV (dh hb1 rfl (Nat.le_refl _)) ?_|refine BP ?_|refine BQ ?_
 cases hm:xm l w n with
 |false=>
  refine ag rfl ((N7 hE T.toMfE hr1 (by omega) hm).mono fun r h2 ⟨k2,e2⟩=> ?_)
  subst e2
  repeat first|refine ZA ?_|refine BP ?_|refine BQ ?_
  exact ⟨rfl,hg1.up k2,(K1.and k2).any⟩
 |true=>
  have hM:=zx.1 hm
  have hel:=Ha l w n
  have hl:=hM.len
  refine ag rfl ((N8 hE T.toMfE hr1 hM).mono fun r h2 ⟨o,e2,⟨k2,b2⟩,o2⟩=> ?_)
  subst e2
  repeat first|refine ZA ?_|refine BV (nC rfl) ?_|refine BP ?_|refine BQ ?_
  refine ag rfl ((LK hE T.aaQ T.put T.clone (pre:=[]) (h:=h2) (v:= .ae) ⟨rfl,rfl⟩ (by intro q;cases q) o2.rs (by simp) (by omega)).mono fun r h3 ⟨o3,e3,⟨k3,b3⟩,s3⟩=> ?_)
  subst e3
  rw [List.nil_append] at s3
  have K3:=(K1.and k2).and k3
  have g3:=(hg1.up k2).up k3
  repeat first|refine ZA ?_|refine BP ?_|refine BQ ?_
  refine ag rfl ((nD hE T.create g3 (by omega) dP).mono fun r h4 ⟨e4,g4,k4⟩=> ?_)
  subst e4
  have l4:=jJ x dP
  have s4:=s3.keep k4 (fun k q1 q2=>by have:=b3 k q1;have q2:k=g:=q2;have:=hg.lt;have:=K1.n;have:=k2.n;omega)
  have K4:Keep (az g) h h4:=K3.any.trans k4 (fun _ _ q=>q)
  rw [if_neg (show¬true=false by decide)]
  generalize x.create dP=c at*
  by_cases hc:c.1=0
  ·rw [if_neg (by simp [hc])]
   repeat first|refine ZA ?_|refine BP ?_|refine BQ ?_
   refine ag rfl ((zq hE T.append g4 (by omega) dP s4.rs).mono fun r h5 ⟨e5,g5,k5⟩=> ?_)
   subst e5
   have l5:=oH c.2 dP (cu (ou l w n))
   have K5:=K4.trans k5 (fun _ _ q=>q)
   generalize c.2.append dP (cu (ou l w n))=a at*
   by_cases ha:a.1=0
   ·rw [if_neg (by simp [ha])]
    repeat first|refine ZA ?_|refine BP ?_|refine BQ ?_
    refine ag rfl ((nD hE T.sync g5 (by omega) dP).mono fun r h6 ⟨e6,g6,k6⟩=> ?_)
    subst e6
    have l6:=EC a.2 dP
    have K6:=K5.trans k6 (fun _ _ q=>q)
    generalize a.2.sync dP=s at*
    by_cases hs:s.1=0
    ·rw [if_neg (by simp [hs])]
     repeat first|refine ZA ?_|refine BP ?_|refine BQ ?_
     refine ag rfl ((Q7 hE T.rename g6 (by omega) dP fC).mono fun r h7 ⟨e7,g7,k7⟩=> ?_)
     subst e7
     repeat first|refine ZA ?_|refine BP ?_|refine BQ ?_
     exact ⟨rfl,g7,K6.trans k7 (fun _ _ q=>q)⟩
    ·rw [if_pos hs]
     repeat first|refine ZA ?_|refine BP ?_|refine BQ ?_
     exact ⟨rfl,g6,K6⟩
   ·rw [if_pos ha]
    repeat first|refine ZA ?_|refine BP ?_|refine BQ ?_
    exact ⟨rfl,g5,K5⟩
  ·rw [if_pos hc]
   repeat first|refine ZA ?_|refine BP ?_|refine BQ ?_
   exact ⟨rfl,g4,K4⟩
def Og (h:Hp MD) (o:Int×Option (List Int×Int×Int)) (r:AV) (h':Hp MD):Prop:=Keep NoB h h'/\match o with
 |(e,none)=>r= .tup [LsV .ae 0 0, .bool false, .int .i64 e]
 |(_,some (ts,w,n))=>∃tv,r= .tup [LsV tv w n, .bool true, .int .i64 0]/\OS h' 1 tv ts.length (ts.map iv)/\∀k,blk tv k->h.n<=k
theorem oJ {n g o:Nat} {x y z:Od} {t:List AV} {h:Hp MD} {l:List AV} {v u:AV} (hx:x.ev [] t= .ptr g o) (hg:Bx h g l) (ho:o+n<=l.length) (hy:y.ev [] t=v) (hz:z.ev [] t=u):resV t h [.fG n x, .slot y, .slot z]=some [.agg ((l.drop o).take n),v,u]:=by
 unfold resV
 rw [show (Rs.fG n x).ev t h=some (.agg ((l.drop o).take n)) from xJ hx hg.get ho]
 unfold resV
 rw [show (Rs.slot y).ev t h=some v from congrArg some hy]
 unfold resV
 rw [show (Rs.slot z).ev t h=some u from congrArg some hz]
 rfl
set_option maxHeartbeats 4000000 in
theorem We (hE:∀f e,E f=some e->e.plain) (T:Zo E) {h:Hp MD} {g:Nat} {x:MD} (hg:Ob h g x) (hx:x.fs.length<=1000000) (hb:∀m,x.get fC=some m->m.b.length<=1099511627776):
  WF (lim E) 71 [.ptr g 0] h fun r h'=>Og h (readF ((x.get fC).map MF.b)) r h':=by
 refine aC hE T.read rfl ?_
 simp only [rC,mvE,mvS,clE,efE,ceS,ceE,csE,faE,nlE,ldE,lnE,exE,eV,sL,kI,List.map,getS]
 have K1:Keep NoB h (h.push (.rw [.ae, .int .i64 0, .int .i64 0])):=Keep.push _ _ _
 have hg1:=hg.up K1
 have hb1:Bx (h.push (.rw [.ae, .int .i64 0, .int .i64 0])) h.n [.ae, .int .i64 0, .int .i64 0]:=aH
 repeat first|refine ZA ?_|refine BV (nC rfl) ?_|refine BP ?_|refine BQ ?_
 generalize h.push (.rw [.ae, .int .i64 0, .int .i64 0])=h1 at K1 hg1 hb1
 have bad:∀{hh:Hp MD},Keep NoB h1 hh->Keep NoB h (hh.put h.n (.rw [.ae, .int .i64 0, .int .i64 0])):=fun {hh} k=>(K1.and k).own (Keep.put (S:=az h.n) _ _ _ rfl) (fun k q=>by have q:k=h.n:=q;omega)
 cases hs:x.get fC with
 |none=>
  refine ag rfl ((xM hE T.CJ hg1 (by omega) hs).mono fun r h2 ⟨e2,e3⟩=> ?_)
  subst e2 e3
  repeat first|refine ZA ?_|refine BW (aV hb1 rfl rfl rfl rfl (Nat.le_refl _)) ?_|refine BP ?_|refine BQ ?_
  exact AT (oJ rfl hb1.put (Nat.le_refl _) rfl rfl) ⟨bad (Keep.refl _ _),rfl⟩
 |some m=>
  have hmb:=hb m hs
  refine ag rfl ((Ju hE T.CJ hg1 (by omega) hs).mono fun r h2 ⟨v,e2,k2,r2,b2⟩=> ?_)
  subst e2
  repeat first|refine ZA ?_|refine BP ?_|refine BQ ?_
  refine ag rfl ((GX hE T.aaR T.Rh T.get T.clone r2 hmb).mono fun r h3 ⟨rv,e3,k3,⟨cells,o3,b3,i3⟩⟩=> ?_)
  subst e3
  unfold readF
  simp only [Option.map]
  have hrl:=ED (m.b.length+1) m.b
  generalize allG (m.b.length+1) m.b=A at*
  obtain ⟨recs,en,fine⟩:=A
  simp only at o3 i3 hrl ⊢
  have r3:=r2.up k3
  have bx3:=(hb1.up k2).up k3
  have K3:=k2.and k3
  cases fine with
  |false=>
   repeat first|refine ZA ?_|refine BW (aV bx3 rfl rfl rfl rfl (Nat.le_refl _)) ?_|refine BP ?_|refine BQ ?_
   exact AT (oJ rfl bx3.put (Nat.le_refl _) rfl rfl) ⟨bad K3,by rw [if_pos (.inl (by trivial))];rfl⟩
  |true=>
   by_cases hr1:recs.length=1
   ·have h1':¬((recs.length:Int)≠1):=by omega
    by_cases h2:en=m.b.length
    ·have h2':¬((en:Int)≠(m.b.length:Int)):=by omega
     obtain ⟨q,hq⟩:∃q,recs[0]?=some q:=⟨recs[0]'(by omega),List.getElem?_eq_getElem (by omega)⟩
     obtain ⟨c,c1,c2,c3,c4⟩:=i3 0 q hq
     have hql:=hrl q (List.mem_of_getElem? hq)
     obtain ⟨gg,oo,ca,cl⟩:=o3.rs.at2 (i:=0) (by omega)
     rw [c1] at cl
     have cl:= @cl NoB _ (Keep.refl _ _) (fun _ _ q=>q)
     have hq0:recs.getD 0 []=q:=by rw [List.getD_eq_getElem?_getD,hq];rfl
     rw [hq0]
     rw [if_neg (show¬(true=false\/recs.length≠1\/en≠m.b.length) by simp [hr1,h2])]
     repeat first|refine ZA ?_|refine BV (o3.rs.ah (by rfl)) ?_|refine BV (r3.ah (by rfl)) ?_|refine BV (ca rfl rfl) ?_|refine BV (cl rfl) ?_|refine BP ?_|refine BQ ?_
     refine ag rfl ((decode_ok hE T.toMfD c3 (by omega)).mono fun r h4 ⟨k4,d4⟩=> ?_)
     have bx4:=bx3.up k4
     have K4:=K3.and k4
     have hn4:=K4.n
     have hn1:=hb1.lt
     have b5:Bx (h4.push (.rw [.ae, .int .i64 0, .int .i64 0])) h.n _:=bx4.up (Keep.push _ _ _)
     have b6:Bx (h4.push (.rw [.ae, .int .i64 0, .int .i64 0])) h4.n _:=aH
     have K5:Keep NoB h1 (h4.push (.rw [.ae, .int .i64 0, .int .i64 0])):=K4.and (Keep.push _ _ _)
     have hz4:h.n≠h4.n:=by omega
     cases hd:Hf q with
     |none=>
      rw [hd] at d4
      simp only at d4
      subst d4
      have b7:=b5.iQ (c:= .rw [.ae, .int .i64 0, .int .i64 0]) hz4
      repeat first|refine ZA ?_|refine BW (aV b6 rfl rfl rfl rfl (Nat.le_refl _)) ?_|refine BW (aV b7 rfl rfl rfl rfl (Nat.le_refl _)) ?_|refine BP ?_|refine BQ ?_
      exact AT (oJ rfl b7.put (Nat.le_refl _) rfl rfl) ⟨bad (K5.own (Keep.put (S:=az h4.n) _ _ _ rfl) (fun k q=>by have q:k=h4.n:=q;omega)),rfl⟩
     |some z=>
      obtain ⟨ts,w,n⟩:=z
      rw [hd] at d4
      obtain ⟨tv,e5,o5,lo5⟩:=d4
      subst e5
      have hall:=aX (b:= .int .i64 w) (c:= .int .i64 n) o5.one.2 rfl rfl
      have b7:=b5.iQ (c:= .rw [tv, .int .i64 w, .int .i64 n]) hz4
      have b8:=b6.put (r:=[tv, .int .i64 w, .int .i64 n])
      have k8:Keep (az h4.n) (h4.push (.rw [.ae, .int .i64 0, .int .i64 0])) ((h4.push (.rw [.ae, .int .i64 0, .int .i64 0])).put h4.n (.rw [tv, .int .i64 w, .int .i64 n])):=Keep.put _ _ _ rfl
      have o8:=(o5.up (Keep.push NoB h4 (.rw [.ae, .int .i64 0, .int .i64 0]))).keep k8 (fun k q1 q2=>by have:=o5.lt k q1;have q2:k=h4.n:=q2;omega)
      repeat first|refine ZA ?_|refine BV (dh b8 rfl (Nat.le_refl _)) ?_|refine BW (aV b6 rfl rfl hall rfl (Nat.le_refl _)) ?_|refine BW (aV b7 rfl rfl hall rfl (Nat.le_refl _)) ?_|refine BP ?_|refine BQ ?_
      have k9:Keep (az h.n) ((h4.push (.rw [.ae, .int .i64 0, .int .i64 0])).put h4.n (.rw [tv, .int .i64 w, .int .i64 n])) _:=Keep.put _ _ (.rw [tv, .int .i64 w, .int .i64 n]) rfl
      refine AT (oJ rfl b7.put (Nat.le_refl _) rfl rfl) ⟨(K1.and (K5.own k8 (fun k q=>by have q:k=h4.n:=q;omega))).own k9 (fun k q=>by have q:k=h.n:=q;omega),tv,rfl,o8.keep k9 (fun k q1 q2=> ?_),fun k q1=> ?_⟩
      ·have:=lo5 k q1;have q2:k=h.n:=q2;have:=K3.n;omega
      ·have:=lo5 k q1;have:=K3.n;omega
    ·have h2':((en:Int)≠(m.b.length:Int)):=by omega
     repeat first|refine ZA ?_|refine BV (o3.rs.ah (by rfl)) ?_|refine BV (r3.ah (by rfl)) ?_|refine BW (aV bx3 rfl rfl rfl rfl (Nat.le_refl _)) ?_|refine BP ?_|refine BQ ?_
     exact AT (oJ rfl bx3.put (Nat.le_refl _) rfl rfl) ⟨bad K3,by rw [if_pos (.inr (.inr h2))];rfl⟩
   ·have h1':((recs.length:Int)≠1):=by omega
    repeat first|refine ZA ?_|refine BV (o3.rs.ah (by rfl)) ?_|refine BW (aV bx3 rfl rfl rfl rfl (Nat.le_refl _)) ?_|refine BP ?_|refine BQ ?_
    exact AT (oJ rfl bx3.put (Nat.le_refl _) rfl rfl) ⟨bad K3,by rw [if_pos (.inr (.inl hr1))];rfl⟩
end
def lF:BF:=⟨13,[0,1,4,8],(.seq (.reg [mvS 2 (.mv (.const .ae))]) (.seq (.seq (.reg [ceS 5 0,lnE 6 5,ceS 7 1,mvS 3 (.bin .gtr .no (eV 6) (eV 7))]) (.cond (sL 3) (.seq (.reg [ceS 9 0,ceS 10 1,mvE 11 (.sl 1 (eV 9) none (some (eV 10)) none),csE 2 11]) .ret) .skip)) (.seq (.reg [ceS 12 0,csE 2 12]) .ret))),[.slot (sL 2)]⟩
section
variable {e:En} {t:List AV} {X:Type} {h:Hp X}
theorem XZ {q:Eq} {x y:Od} {k:IntKind} {a b:Int} (hx:x.ev e t= .int k a) (hy:y.ev e t= .int k b) (hb:b≠0):(Mv.bin .rem q x y).ev e t h=some (.int k (a.tmod b)):=by
 simp [Mv.ev,hx,hy,Am.bin,AV.onInt,intOp,isShift,hb]
end
section
variable {X:Type} {E:Nat->Option (Ent X)}
theorem Jz (hE:∀f e,E f=some e->e.plain) (hf:E 21=some (.bc lF)) {h:Hp X} {v:AV} {bs:List UInt8} (hr:RS h 1 v bs.length (bs.map ub)) {n:Nat} (hn:n<=1000000):
  WF (lim E) 21 [v, .int .i64 n] h fun r h'=>h'=h/\RS h 1 r (bs.take n).length ((bs.take n).map ub)/\(∀k,blk r k->blk v k)/\(v≠ .bV->r≠ .bV):=by
 refine aC hE hf rfl ?_
 simp only [lF,mvE,mvS,clE,efE,ceS,ceE,csE,faE,nlE,ldE,lnE,exE,eV,sL,kI,List.map,getS]
 by_cases hc:(n:Int) < bs.length
 ·obtain ⟨v2,q1,q2,q3,q4⟩:=hr.bytes (lo:=0) (hi:=n) (Nat.zero_le _) (by omega)
  rw [List.drop_zero,Nat.sub_zero] at q1
  repeat first|refine ZA ?_|refine BV (hr.ah (by rfl)) ?_|refine BV (q4 (by rfl) (.inl ⟨rfl,rfl⟩) (.inr ⟨_,_,rfl,rfl⟩)) ?_|refine BP ?_|refine BQ ?_
  exact ⟨rfl,q1,q2,q3⟩
 ·repeat first|refine ZA ?_|refine BV (hr.ah (by rfl)) ?_|refine BP ?_|refine BQ ?_
  refine ⟨rfl, ?_,fun k q=>q,fun q=>q⟩
  rw [List.take_of_length_le (by omega)]
  exact hr
end
def gU:BF:=⟨30,[0,2,3,4,11,26],(.seq (.reg [mvS 1 (.mv (.const (.str [])))]) (.seq (.reg [mvS 2 (.mv (.const (.str [])))]) (.seq (.seq (.reg [ceS 5 0,csE 3 5]) (.block 0 (.loop (.seq (.seq (.reg [ceS 6 2,mvE 7 (.bin .eql .no (eV 6) (.const (.str []))),ceE 8 7, .mk (some ((eV 8),false)) (.env 9) (.mov (.mv (sL 3))), .mk (some ((eV 8),false)) (.env 10) (.mov (.bin .neq .no (eV 9) (.const (.int .i64 0)))),mvS 4 (.pick (eV 8) (.const (.bool true)) (eV 10))]) (.cond (sL 4) .skip (.exit 0))) (.seq (.block 1 (.reg [ceS 14 3,mvE 15 (.bin .rem .no (eV 14) (.const (.int .i64 10))),ceS 16 3,mvE 17 (.bin .rem .no (eV 16) (.const (.int .i64 10))),mvE 18 (.neg (eV 17)),mvE 19 (.FQ (eV 15) (eV 18)),mvE 20 (.bin .add .no (.const (.int .i64 48)) (eV 19)),mvE 21 (.conv .i32 (eV 20)),mvE 22 (.i2s (eV 21)),ceS 23 2,mvE 24 (.bin .add .no (eV 22) (eV 23)),csE 2 24])) (.reg [ceS 12 3,mvE 13 (.bin .quo .no (eV 12) (.const (.int .i64 10))),csE 3 13])))))) (.seq (.seq (.reg [ceS 25 0,mvS 5 (.bin .lss .no (eV 25) (.const (.int .i64 0)))]) (.cond (sL 5) (.seq (.reg [ceS 27 2,mvE 28 (.bin .add .no (.const (.str [45])) (eV 27)),csE 1 28]) .ret) .skip)) (.seq (.reg [ceS 29 2,csE 1 29]) .ret))))),[.slot (sL 1)]⟩
def lG:BF:=⟨6,[0,2],(.seq (.reg [mvS 1 (.mv (.const (.str [])))]) (.seq (.reg [ceS 3 0,clE 4 123 [eV 3],mvE 5 (.bin .add .no (.const (.str [116])) (eV 4)),csE 1 5]) .ret)),[.slot (sL 1)]⟩
def sV:BF:=⟨6,[0,2],(.seq (.reg [mvS 1 (.mv (.const (.str [])))]) (.seq (.reg [ceS 3 0,clE 4 123 [eV 3],mvE 5 (.bin .add .no (.const (.str [119])) (eV 4)),csE 1 5]) .ret)),[.slot (sL 1)]⟩
def dacc:Nat->Nat->List UInt8->List UInt8
 |0,_,s=>s
 |k+1,r,s=>if s=[]\/r≠0 then dacc k (r / 10) (UInt8.ofNat (48+r % 10)::s) else s
def uI (n:Nat):List UInt8:=dacc 9 n []
theorem Hl:∀(k r:Nat) (s:List UInt8),(dacc k r s).length<=k+s.length
 |0,_,s=>by simp [dacc]
 |k+1,r,s=>by
  rw [dacc]
  by_cases hc:s=[]\/r≠0
  ·rw [if_pos hc]
   refine Nat.le_trans (Hl k _ _) ?_
   rw [List.length_cons]
   exact Nat.le_of_eq (Nat.succ_add_eq_add_succ k s.length).symm
  ·rw [if_neg hc]
   exact Nat.le_add_left _ _
section
variable {e:En} {t:List AV} {X:Type} {h:Hp X}
theorem LM {q:Eq} {x y:Od} {k:IntKind} {r:Nat} (hx:x.ev e t= .int k (r:Int)) (hy:y.ev e t= .int k 10):(Mv.bin .rem q x y).ev e t h=some (.int k ((r % 10:Nat):Int)):=
 (XZ hx hy (by decide)).trans rfl
theorem LP {q:Eq} {x y:Od} {k:IntKind} {r:Nat} (hx:x.ev e t= .int k (r:Int)) (hy:y.ev e t= .int k 10) (hk:k= .i64\/k= .u64) (hr:r < 4611686018427387904):(Mv.bin .quo q x y).ev e t h=some (.int k ((r / 10:Nat):Int)):=by
 have e1:(r:Int).tdiv 10=((r / 10:Nat):Int):=rfl
 have e2:wr k ((r / 10:Nat):Int)=((r / 10:Nat):Int):=by
  rcases hk with rfl|rfl
  ·exact NQ (by omega)
  ·have e3:((r / 10:Nat):Int) % 2^64=((r / 10:Nat):Int):=by omega
   simp only [wr,IntKind.wrap,IntKind.signed,IntKind.bits,e3]
   simp
 simp only [Mv.ev,hx,hy,Am.bin,AV.onInt,isShift,intOp]
 simp only [Bool.false_or,decide_true,cond_true]
 rw [if_neg (by decide),e1,e2]
theorem X3 {x:Od} {a:Int} (hx:x.ev e t= .int .i64 a) (ha: -9223372036854775807<=a/\a < 9223372036854775808):(Mv.neg x).ev e t h=some (.int .i64 (-a)):=by
 simp only [Mv.ev,hx,AV.onInt]
 rw [show 0 - a= -a by omega,NQ (by omega)]
theorem Ri {x y:Od} {k k':IntKind} {a b:Int} (hx:x.ev e t= .int k a) (hy:y.ev e t= .int k' b) (hb:b<=a):(Mv.FQ x y).ev e t h=some (.int k a):=by
 rw [XV hx hy,Int.max_eq_left hb]
theorem zC {x:Od} {k:IntKind} {a:Int} (hx:x.ev e t= .int k a) (hb:0<=a/\a < 2147483648):(Mv.conv .i32 x).ev e t h=some (.int .i32 a):=by
 have:wr .i32 a=a:=by
  have e:a % 2^32=a:=by omega
  simp only [wr,IntKind.wrap,IntKind.signed,IntKind.bits,e]
  simp
  omega
 simp [Mv.ev,hx,AV.onInt,this]
theorem Rj:∀d:Nat,d < 10->(Utf8.encode (48+(d:Int))).data.toList=[UInt8.ofNat (48+d)]
 |0,_=>rfl|1,_=>rfl|2,_=>rfl|3,_=>rfl|4,_=>rfl|5,_=>rfl|6,_=>rfl|7,_=>rfl|8,_=>rfl|9,_=>rfl
 |n+10,h=>by omega
theorem X4 {x:Od} {k:IntKind} {a:Int} {d:Nat} (hx:x.ev e t= .int k a) (ha:a=48+(d:Int)) (hd:d < 10):(Mv.i2s x).ev e t h=some (.str [UInt8.ofNat (48+d)]):=by
 simp only [Mv.ev,hx,AV.onInt,ha,Rj d hd]
end
section
variable {X:Type} {E:Nat->Option (Ent X)}
theorem CO (hE:∀f e,E f=some e->e.plain) (hf:E 123=some (.bc gU)) {h:Hp X} {n:Nat} (hn:n < 100000000):
  WF (lim E) 123 [.int .i64 n] h fun r h'=>h'=h/\r= .str (uI n):=by
 refine aC hE hf rfl ?_
 simp only [gU,mvE,mvS,clE,efE,ceS,ceE,csE,faE,nlE,ldE,lnE,exE,eV,sL,kI,List.map,getS]
 repeat first|refine ZA ?_|refine BP ?_|refine BQ ?_
 obtain ⟨D,hD⟩:∃D,uI n=D:=⟨_,rfl⟩
 rw [hD]
 unfold uI at hD
 refine aQ (fun k t h'=>h'=h/\∃(r:Nat) (s:List UInt8) (s4 s5:AV),dacc k r s=D/\s.length+k=9/\r < 10^(k - 1)/\t=[.int .i64 n, .str [], .str s, .int .i64 r,s4,s5]) ?_ 9 _ _ ⟨rfl,n,[],_,_,hD,rfl,hn,rfl⟩
 rintro k t h' ⟨rfl,r,s,s4,s5,hd,hk,hr,rfl⟩
 have hr8:r < 100000000:=by
  rcases Nat.eq_zero_or_pos k with rfl|h0
  ·have hr:r < 1:=hr
   omega
  ·exact Nat.lt_of_lt_of_le hr (Nat.le_trans (Nat.pow_le_pow_right (by omega) (show k - 1<=8 by omega)) (by decide))
 have hmod:r % 10 < 10:=Nat.mod_lt _ (by omega)
 have h48:48+r % 10 < 18446744073709551616:=by omega
 have h49:((48+r % 10:Nat):Int)=48+((r % 10:Nat):Int):=by omega
 have h50:0<=((48+r % 10:Nat):Int)/\((48+r % 10:Nat):Int) < 2147483648:=by omega
 have step:∀(hc:s=[]\/r≠0),∃k',k=k'+1/\dacc k' (r / 10) (UInt8.ofNat (48+r % 10)::s)=D/\(UInt8.ofNat (48+r % 10)::s).length+k'=9/\r / 10 < 10^(k' - 1):=fun hc=>by
  cases k with
  |zero=>
   exfalso
   rcases hc with rfl|hc
   ·simp at hk
   ·have hr:r < 1:=hr
    omega
  |succ k=>
   rw [dacc,if_pos hc] at hd
   refine ⟨k,rfl,hd,by simp;omega, ?_⟩
   rw [Nat.add_sub_cancel] at hr
   cases k with
   |zero=>have hr:r < 1:=hr;simp;omega
   |succ k=>
    rw [Nat.pow_succ] at hr
    rw [Nat.add_sub_cancel]
    omega
 cases s with
 |nil=>
  obtain ⟨k',e1,e2,e3,e4⟩:=step (.inl rfl)
  repeat first|refine ZA ?_|refine BV (uG rfl rfl) ?_|refine BV (LM rfl rfl) ?_|refine BV (X3 rfl (by omega)) ?_|refine BV (Ri rfl rfl (by omega)) ?_|refine BV (zC rfl (by omega)) ?_|refine BV (X4 rfl rfl hmod) ?_|refine BV (Eu rfl rfl (by simp)) ?_|refine BV (LP rfl rfl (.inl rfl) (by omega)) ?_|refine BP ?_|refine BQ ?_
  exact aj k' (by omega) ⟨rfl,r / 10,_,_,_,e2,e3,e4,rfl⟩
 |cons c s=>
  by_cases h0:(r:Int)=0
  ·have h0':r=0:=by omega
   repeat first|refine ZA ?_|refine BV (uG rfl rfl) ?_|refine BP ?_|refine BQ ?_
   refine ⟨rfl, ?_⟩
   cases k with
   |zero=>rw [<-hd];rfl
   |succ k=>rw [dacc,if_neg (by rintro (q|q);cases q;exact q h0')] at hd;rw [<-hd];rfl
  ·obtain ⟨k',e1,e2,e3,e4⟩:=step (.inr (by omega))
   have hsl:s.length+1+k=9:=by simpa using hk
   repeat first|refine ZA ?_|refine BV (uG rfl rfl) ?_|refine BV (LM rfl rfl) ?_|refine BV (X3 rfl (by omega)) ?_|refine BV (Ri rfl rfl (by omega)) ?_|refine BV (zC rfl (by omega)) ?_|refine BV (X4 rfl rfl hmod) ?_|refine BV (Eu rfl rfl (by simp;omega)) ?_|refine BV (LP rfl rfl (.inl rfl) (by omega)) ?_|refine BP ?_|refine BQ ?_
   exact aj k' (by omega) ⟨rfl,r / 10,_,_,_,e2,e3,e4,rfl⟩
theorem oK (n:Nat):(uI n).length<=9:=Hl 9 n []
theorem vV (hE:∀f e,E f=some e->e.plain) (ht:E 89=some (.bc lG)) (hf:E 123=some (.bc gU)) {h:Hp X} {n:Nat} (hn:n < 100000000):
  WF (lim E) 89 [.int .i64 n] h fun r h'=>h'=h/\r= .str (116::uI n):=by
 refine aC hE ht rfl ?_
 simp only [lG,mvE,mvS,clE,efE,ceS,ceE,csE,faE,nlE,ldE,lnE,exE,eV,sL,kI,List.map,getS]
 have:=oK n
 repeat first|refine ZA ?_|refine BP ?_|refine BQ ?_
 refine ag rfl ((CO hE hf hn).mono fun r h1 ⟨e1,e2⟩=> ?_)
 subst e1 e2
 repeat first|refine ZA ?_|refine BV (Eu rfl rfl (by simp;omega)) ?_|refine BP ?_|refine BQ ?_
 exact ⟨rfl,rfl⟩
theorem LQ (hE:∀f e,E f=some e->e.plain) (ht:E 75=some (.bc sV)) (hf:E 123=some (.bc gU)) {h:Hp X} {n:Nat} (hn:n < 100000000):
  WF (lim E) 75 [.int .i64 n] h fun r h'=>h'=h/\r= .str (119::uI n):=by
 refine aC hE ht rfl ?_
 simp only [sV,mvE,mvS,clE,efE,ceS,ceE,csE,faE,nlE,ldE,lnE,exE,eV,sL,kI,List.map,getS]
 have:=oK n
 repeat first|refine ZA ?_|refine BP ?_|refine BQ ?_
 refine ag rfl ((CO hE hf hn).mono fun r h1 ⟨e1,e2⟩=> ?_)
 subst e1 e2
 repeat first|refine ZA ?_|refine BV (Eu rfl rfl (by simp;omega)) ?_|refine BP ?_|refine BQ ?_
 exact ⟨rfl,rfl⟩
end
theorem aaS {n:Nat} (h:n < 16777216):n^^^16777215=16777215 - n:=by
 apply Nat.eq_of_testBit_eq
 intro i
 rw [Nat.testBit_xor,show (16777215:Nat)=2^24 - 1 from rfl,Nat.testBit_two_pow_sub_one,show 2^24 - 1 - n=2^24 - (n+1) by omega,Nat.testBit_two_pow_sub_succ (x:=n) (n:=24) (by omega)]
 by_cases hi:i < 24
 ·simp [hi]
 ·have:n.testBit i=false:=Nat.testBit_lt_two_pow (Nat.lt_of_lt_of_le h (by
   rw [show (16777216:Nat)=2^24 from rfl]
   exact Nat.pow_le_pow_right (by omega) (by omega)))
  simp [hi,this]
theorem Wh {l:List Int} {w n:Int} (hm:Jv l w n):(ou l w n).length<=1000:=by
 have:=hm.len
 rw [Ha];omega
theorem sW {o:Nat} {c:AV} {l:List AV} (ho:o < l.length):spl o [c] l=l.set o c:=by
 unfold spl
 rw [List.set_eq_take_append_cons_drop,if_pos ho]
 simp
section
variable {X:Type} {h:Hp X}
theorem OS.set {n k:Nat} {v c:AV} {cells:List AV} (a:OS h 1 v n cells) (hk:k < n):∃g o l,(∀{hh:Hp X} {e:En} {t:List AV} {x y:Od} {kk:IntKind},x.ev e t=v->y.ev e t= .int kk (k:Int)->(Mv.aP 1 x y).ev e t hh=some (.ptr g o))/\
  Bx h g l/\o < l.length/\l[o]?=cells[k]?/\OS (h.put g (.rw (spl o [c] l))) 1 v n (cells.set k c)/\blk v g:=by
 cases v<;>first|exact a.elim|skip
 ·rename_i z g o m cap
  obtain ⟨rfl,rfl,hz,hg,l,hl,hle,rfl,hcap⟩:=a
  refine ⟨g,o+k*1,l,fun {hh e t x y kk} hx hy=> ?_,⟨hg,hl⟩,by omega, ?_,⟨rfl,rfl,hz,hg,_,Hp.bW _ _ _, ?_, ?_, ?_⟩,rfl⟩
  ·simp only [Mv.ev,hx,hy,nOf]
   rw [show Nat.blt k m=true by rw [Nat.blt_eq];exact hk]
   rfl
  ·rw [List.getElem?_take_of_lt (by omega),List.getElem?_drop,Nat.mul_one]
  ·rw [sW (by omega),List.length_set];exact hle
  ·rw [sW (by omega),Nat.mul_one,List.drop_set,if_neg (by omega),List.take_set,Nat.add_sub_cancel_left,Nat.mul_one]
  ·rw [sW (by omega),List.length_set];exact hcap
 ·obtain ⟨rfl,_⟩:=a;omega
theorem LU {e:En} {t:List AV} {q:Eq} {x y:Od} {a b:List UInt8} (hx:x.ev e t= .str a) (hy:y.ev e t= .str b) (hab:a=b):(Mv.bin .eql q x y).ev e t h=some (.bool true):=by
 rw [uG hx hy,hab]
 simp
end
structure LBx (h:Hp MD) (g:Nat) (hi:Nat) (l:List Int) (w n:Int):Prop where
 out:∃tv,Bx h g [tv, .int .i64 w, .int .i64 n]/\RS h 1 tv l.length (l.map iv)/\∀k,blk tv k->k < hi
theorem LBx.keep {S:Nat->Prop} {h h':Hp MD} {g hi:Nat} {l:List Int} {w n:Int} (a:LBx h g hi l w n) (k:Keep S h h') (hg:¬S g) (hs:∀j,S j->hi<=j):LBx h' g hi l w n:=by
 obtain ⟨tv,h1,h2,h3⟩:=a.out
 exact ⟨⟨tv,h1.keep k hg,h2.keep k (fun j q1 q2=>by have:=h3 j q1;have:=hs j q2;omega),h3⟩⟩
theorem LBx.lt {h:Hp MD} {g hi:Nat} {l:List Int} {w n:Int} (a:LBx h g hi l w n):g < h.n:=by
 obtain ⟨tv,h1,_⟩:=a.out
 exact h1.lt
end Am
end Go.Proofs.YtbnkdnlfdofepaaGreat
