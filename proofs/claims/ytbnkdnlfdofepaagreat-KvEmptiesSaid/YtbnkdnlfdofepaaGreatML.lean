/- Package wal: Open, Add, Sync, Count, Name. Chapter 5: batches that are drawn: keep.Cut, keep.Entries, batches. Chapter 5: batches, laid. Chapter 8's own Same; layer 5's same. Layer 5's same, fresh, on. Package wal: Add, Sync, Count, Name. -/
import Derived.Test.YtbnkdnlfdofepaaGreatMK
set_option linter.unusedVariables false
set_option linter.unusedSimpArgs false
namespace Go.Proofs.YtbnkdnlfdofepaaGreat
namespace Am
open Go.RowKit
set_option maxRecDepth 100000
def lV:BF:=⟨31,[0,1,4,5,6,7,19,26],(.seq (.reg [mvS 2 (.mv (.const .ae)),mvS 3 (.mv (.const (.int .i64 0)))]) (.seq (.seq (.reg [ceS 8 0,mvE 9 (.bin .eql .ptr (eV 8) (.const .bU)),ceE 10 9, .mk (some ((eV 10),false)) (.env 11) (.mov (.mv (sL 1))), .mk (some ((eV 10),false)) (.env 12) (.mov (.lens (eV 11))), .mk (some ((eV 10),false)) (.env 13) (.mov (.bin .lss .no (eV 12) (.const (.int .i64 1)))),mvE 14 (.pick (eV 10) (.const (.bool true)) (eV 13)),ceE 15 14, .mk (some ((eV 15),false)) (.env 16) (.mov (.mv (sL 1))), .mk (some ((eV 15),false)) (.env 17) (.mov (.lens (eV 16))), .mk (some ((eV 15),false)) (.env 18) (.mov (.bin .gtr .no (eV 17) (.const (.int .i64 32)))),mvS 6 (.pick (eV 15) (.const (.bool true)) (eV 18))]) (.cond (sL 6) (.seq (.reg [mvS 2 (.mv (.const .ae)),mvS 3 (.mv (.const (.int .i64 1)))]) .ret) .skip)) (.seq (.seq (.reg [ceS 21 0,ceS 22 1,clE 23 116 [eV 21,eV 22],ceE 20 23,exE 24 0 20,exE 25 1 20,csE 4 24,csE 5 25]) (.seq (.reg [mvS 7 (.mv (sL 5))]) (.cond (sL 7) (.seq (.reg [ceS 27 4,csE 2 27,mvS 3 (.mv (.const (.int .i64 0)))]) .ret) .skip))) (.seq (.reg [ceS 28 0,ceS 29 1,clE 30 50 [eV 28,eV 29],mvS 2 (.mv (.const .ae)),csE 3 30]) .ret)))),[.slot (sL 2), .slot (sL 3)]⟩
def oN:BF:=⟨71,[0,1,4,5,6,7,8,9,10,11,12,14,15,16,24,33,38,44,46,47,48,49,58],(.seq (.reg [mvS 2 (.mv (.const .bU)),mvS 3 (.mv (.const .ae)),mvS 4 (.mv (.const (.int .i64 0)))]) (.seq (.reg [ceS 18 0,ceS 19 1,clE 20 120 [eV 18,eV 19],ceE 17 20,exE 21 0 17,exE 22 1 17,csE 5 21,csE 6 22]) (.seq (.seq (.reg [ceS 23 6,mvS 14 (.bin .neq .no (eV 23) (.const (.int .i64 0)))]) (.cond (sL 14) (.seq (.reg [ceS 25 6,mvS 2 (.mv (.const .bU)),mvS 3 (.mv (.const .ae)),csE 4 25]) .ret) .skip)) (.seq (.reg [ceS 27 5,clE 28 117 [eV 27],ceE 26 28,exE 29 0 26,exE 30 1 26,exE 31 2 26,csE 7 29,csE 8 30,csE 6 31]) (.seq (.seq (.reg [ceS 32 6,mvS 15 (.bin .neq .no (eV 32) (.const (.int .i64 0)))]) (.cond (sL 15) (.seq (.reg [ceS 34 6,mvS 2 (.mv (.const .bU)),mvS 3 (.mv (.const .ae)),csE 4 34]) .ret) .skip)) (.seq (.seq (.reg [ceS 35 8,ceS 36 5,lnE 37 36,mvS 16 (.bin .lss .no (eV 35) (eV 37))]) (.cond (sL 16) (.seq (.reg [ceS 39 0,ceS 40 1,ceS 41 8,clE 42 121 [eV 39,eV 40,eV 41],csE 9 42]) (.seq (.reg [ceS 43 9,mvS 17 (.bin .neq .no (eV 43) (.const (.int .i64 0)))]) (.cond (sL 17) (.seq (.reg [ceS 45 9,mvS 2 (.mv (.const .bU)),mvS 3 (.mv (.const .ae)),csE 4 45]) .ret) .skip))) .skip)) (.seq (.reg [mvS 10 (.mv (.const .ae))]) (.seq (.seq (.reg [mvS 18 (.mv (sL 7)),mvS 19 (.ah (sL 18)),mvS 20 (.mv (.const (.int .i64 0)))]) (.block 0 (.loop (.seq (.reg [mvS 21 (.bin .lss .no (sL 20) (sL 19))]) (.seq (.cond (sL 21) .skip (.exit 0)) (.seq (.block 1 (.seq (.reg [mvE 50 (.aP 1 (sL 18) (sL 20)),ldE 51 50,csE 11 51]) (.seq (.reg [ceS 53 11,clE 54 122 [eV 53],ceE 52 54,exE 55 0 52,exE 56 1 52,csE 12 55,csE 13 56]) (.seq (.seq (.reg [ceS 57 13,mvS 22 (.bin .neq .no (eV 57) (.const (.int .i64 0)))]) (.cond (sL 22) (.seq (.reg [mvS 2 (.mv (.const .bU)),mvS 3 (.mv (.const .ae)),mvS 4 (.mv (.const (.int .i64 14)))]) .ret) .skip)) (.reg [ceS 59 10,ceS 60 12,efE 61 (.aF 1 1 [.ae] [(0,1,(eV 60))]),efE 62 (.append 1 24 (eV 59) (eV 61)),csE 10 62]))))) (.reg [mvE 63 (.bin .add .no (sL 20) (.const (.int .i64 1))),csE 20 63]))))))) (.seq (.reg [ceS 64 0,ceS 65 1,ceS 66 10,lnE 67 66,mvE 68 (.bld [.bU,(.str []),(.int .i64 0)] [(0,1,(eV 64)),(1,1,(eV 65)),(2,1,(eV 67))]),efE 69 (.box (eV 68)),ceS 70 10,csE 2 69,csE 3 70,mvS 4 (.mv (.const (.int .i64 0)))]) .ret))))))))),[.slot (sL 2), .slot (sL 3), .slot (sL 4)]⟩
def rE:BF:=⟨46,[0,1,4,5,6,7,8,15,23,37],(.seq (.reg [mvS 2 (.mv (.const (.int .i64 0)))]) (.seq (.reg [ceS 10 1,clE 11 105 [eV 10],ceE 9 11,exE 12 0 9,exE 13 1 9,csE 3 12,csE 4 13]) (.seq (.seq (.reg [ceS 14 4,mvS 7 (.bin .neq .no (eV 14) (.const (.int .i64 0)))]) (.cond (sL 7) (.seq (.reg [ceS 16 4,csE 2 16]) .ret) .skip)) (.seq (.reg [ceS 18 3,clE 19 106 [(.const .ae),eV 18],ceE 17 19,exE 20 0 17,exE 21 1 17,csE 5 20,csE 4 21]) (.seq (.seq (.reg [ceS 22 4,mvS 8 (.bin .neq .no (eV 22) (.const (.int .i64 0)))]) (.cond (sL 8) (.seq (.reg [ceS 24 4,csE 2 24]) .ret) .skip)) (.seq (.seq (.iC [(ceS 25 0,[]),(nlE 26 25,[]),(faE 27 0 26,[]),(ldE 28 27,[]),(ceS 29 0,[]),(nlE 30 29,[]),(faE 31 1 30,[]),(ldE 32 31,[]),(ceS 33 5,[]),(clE 34 107 [eV 33],[0,1,2,3,4,5,6,7]),(clE 35 51 [eV 28,eV 32,eV 34],[]),(csE 6 35,[])]) (.seq (.reg [ceS 36 6,mvS 9 (.bin .neq .no (eV 36) (.const (.int .i64 0)))]) (.cond (sL 9) (.seq (.reg [ceS 38 6,csE 2 38]) .ret) .skip))) (.seq (.reg [ceS 39 0,nlE 40 39,faE 41 2 40,ldE 42 41,mvE 43 (.bin .add .no (eV 42) (.const (.int .i64 1))),nlE 44 39,faE 45 2 44, .mk none .none (.eff (.store 1 (eV 45) (eV 43)))]) (.seq (.reg [mvS 2 (.mv (.const (.int .i64 0)))]) .ret)))))))),[.slot (sL 2)]⟩
def tq:BF:=⟨9,[0,2],(.seq (.reg [mvS 1 (.mv (.const .ae))]) (.seq (.reg [ceS 3 0,ceS 4 0,lnE 5 4,ceS 6 0,lnE 7 6,mvE 8 (.sl 1 (eV 3) none (some (eV 5)) (some (eV 7))),csE 1 8]) .ret)),[.slot (sL 1)]⟩
def oO:BF:=⟨12,[0,2],(.seq (.reg [mvS 1 (.mv (.const (.int .i64 0)))]) (.seq (.iC [(ceS 3 0,[]),(nlE 4 3,[]),(faE 5 0 4,[]),(ldE 6 5,[]),(ceS 7 0,[]),(nlE 8 7,[]),(faE 9 1 8,[]),(ldE 10 9,[]),(clE 11 108 [eV 6,eV 10],[]),(csE 1 11,[])]) .ret)),[.slot (sL 1)]⟩
def oP:BF:=⟨7,[0,2],(.seq (.reg [mvS 1 (.mv (.const (.str [])))]) (.seq (.reg [ceS 3 0,nlE 4 3,faE 5 1 4,ldE 6 5,csE 1 6]) .ret)),[.slot (sL 1)]⟩
def allE:List (List UInt8)->Option (List (List EM))
 |[]=>some []
 |r::l=>match frE r with
  |none=>none
  |some e=>(allE l).map (e::·)
def beginF (x:MD) (s:List UInt8):List UInt8×Int×MD:=match x.get s with
 |some f=>(f.b,0,x)
 |none=>([],(x.create s).1,(x.create s).2)
def EI (x:MD) (s:List UInt8) (b:List UInt8):Int×MD:=if (allG (b.length+1) b).2.1 < b.length then x.cut s (allG (b.length+1) b).2.1 else (0,x)
def openF (x:MD) (s:List UInt8):Except Int (List (List EM))×MD:=
 if (beginF x s).2.1≠0 then (.error (beginF x s).2.1,(beginF x s).2.2)
 else if (allG ((beginF x s).1.length+1) (beginF x s).1).2.2=false then (.error 14,(beginF x s).2.2)
 else if (EI (beginF x s).2.2 s (beginF x s).1).1≠0 then (.error (EI (beginF x s).2.2 s (beginF x s).1).1,(EI (beginF x s).2.2 s (beginF x s).1).2)
 else match allE (allG ((beginF x s).1.length+1) (beginF x s).1).1 with
  |none=>(.error 14,(EI (beginF x s).2.2 s (beginF x s).1).2)
  |some ls=>(.ok ls,(EI (beginF x s).2.2 s (beginF x s).1).2)
structure WaW (E:Nat->Option (Ent MD)):Prop extends WaN E where
 JC:E 120=some (.bc lV)
 open_:E 74=some (.bc oN)
 add:E 62=some (.bc rE)
 clip:E 107=some (.bc tq)
 aaU:E 63=some (.bc oO)
 aaV:E 83=some (.bc oP)
 aaW:E 117=some (.bc qj)
 RJ:E 152=some (.bc gQ)
 aaX:E 106=some (.bc mW)
 create:E 50=some (.nat (jg MD.create))
 append:E 51=some (.nat nV)
 sync:E 108=some (.nat (jg MD.sync))
 abX:E 121=some (.nat Gv)
 CJ:E 116=some (.nat qX)
section
variable {E:Nat->Option (Ent MD)}
def Wn (h:Hp MD) (d:Nat) (x:MD) (s:List UInt8) (r:AV) (h':Hp MD):Prop:=∃v,r= .tup [v, .int .i64 (beginF x s).2.1]/\RS h' 1 v (beginF x s).1.length ((beginF x s).1.map ub)/\Ob h' d (beginF x s).2.2/\Keep (az d) h h'
theorem RN (hE:∀f e,E f=some e->e.plain) (T:WaW E) {h:Hp MD} {d:Nat} {x:MD} {s:List UInt8} (hd:Ob h d x) (hn:x.fs.length<=1099511627775) (h1:1<=s.length) (h2:s.length<=32):
  WF (lim E) 120 [.ptr d 0, .str s] h fun r h'=>Wn h d x s r h':=by
 refine aC hE T.JC rfl ?_
 simp only [lV,mvE,mvS,clE,efE,ceS,ceE,csE,faE,nlE,ldE,lnE,exE,eV,sL,kI,List.map,getS]
 repeat first|refine ZA ?_|refine BV (nC rfl) ?_|refine BV (v_lens rfl) ?_|refine BP ?_|refine BQ ?_
 cases hg:x.get s with
 |none=>
  refine ag rfl ((xM hE T.CJ hd hn hg).mono fun r h1 ⟨e1,e2⟩=> ?_)
  subst e1 e2
  repeat first|refine ZA ?_|refine BP ?_|refine BQ ?_
  refine ag rfl ((nD hE T.create hd hn s).mono fun r h2 ⟨e2,o2,k2⟩=> ?_)
  subst e2
  have e:beginF x s=([],(x.create s).1,(x.create s).2):=by unfold beginF;rw [hg]
  repeat first|refine ZA ?_|refine BP ?_|refine BQ ?_
  refine ⟨.ae,by rw [e];rfl,by rw [e];exact ⟨rfl,rfl⟩,by rw [e];exact o2,k2⟩
 |some f=>
  refine ag rfl ((Ju hE T.CJ hd hn hg).mono fun r h1 ⟨v,e1,k1,r1,_⟩=> ?_)
  subst e1
  have e:beginF x s=(f.b,0,x):=by unfold beginF;rw [hg]
  repeat first|refine ZA ?_|refine BP ?_|refine BQ ?_
  refine ⟨v,by rw [e];rfl,by rw [e];exact r1,by rw [e];exact hd.up k1,k1.any⟩
structure Oi (P:List AV->Hp MD->Prop) (S:R MD->Prop) (r:R MD):Prop where
 out:match r with| .norm t h=>P t h|r=>S r
theorem bK {P:List AV->Hp MD->Prop} {S:R MD->Prop} {t:List AV} {h:Hp MD} (q:P t h):Oi P S (.norm t h):=⟨q⟩
theorem LZ {P:List AV->Hp MD->Prop} {S:R MD->Prop} {t:List AV} {h:Hp MD} (q:S (.ret t h)):Oi P S (.ret t h):=⟨q⟩
theorem uK {D:Dp MD} {t:List AV} {h:Hp MD} {c b:BC} {Q:R MD->Prop} (P:List AV->Hp MD->Prop) (H:WB D c t h (Oi P (mV D b Q))) (H2:∀t' h',P t' h'->WB D b t' h' Q):WB D c t h (mV D b Q):=by
 have key:∀r,Oi P (mV D b Q) r->mV D b Q r:=fun r q=>by
  cases r with
  |norm t h=>exact ⟨H2 _ _ q.out⟩
  |_=>exact q.out
 exact WB.mono H key
theorem Hr:∀(k:Nat) (bs:List UInt8),(allG k bs).1.length<=bs.length/\(allG k bs).2.1<=bs.length
 |0,bs=>by simp [allG]
 |k+1,bs=>by
  rw [allG]
  split
  ·simp
  ·split
   ·simp
   ·rename_i c1 c2
    have ih:=Hr k (bs.drop (6+(kN bs).1))
    rw [List.length_drop] at ih
    have c3:(kN bs).2=true:=by simpa using c2
    have c4:¬(bs.length < 6)/\¬(bs.length - 6 < (kN bs).1):=⟨fun q=>c1 (.inl q),fun q=>c1 (.inr ⟨c3,q⟩)⟩
    simp only [List.length_cons]
    omega
def OpenPost (h:Hp MD) (d:Nat) (s:List UInt8) (o:Except Int (List (List EM))×MD) (r:AV) (h':Hp MD):Prop:=Keep (az d) h h'/\Ob h' d o.2/\match o.1 with
 | .error e=>r= .tup [.bU, .ae, .int .i64 e]
 | .ok ls=>∃g m,r= .tup [.ptr g 0,m, .int .i64 0]/\h.n<=g/\Bx h' g [.ptr d 0, .str s, .int .i64 ls.length]/\nG h' m ls (fun k=>h.n<=k/\k < g)
theorem CP:∀{l:List (List UInt8)} {i:Nat} {r:List UInt8},l[i]?=some r->frE r=none->allE l=none
 |[],i,r,h,_=>by simp at h
 |a::l,0,r,h,hf=>by
  simp at h;subst h
  unfold allE
  rw [hf]
 |a::l,i+1,r,h,hf=>by
  simp at h
  unfold allE
  cases hx:frE a with
  |none=>rfl
  |some e=>simp only;rw [CP h hf];rfl
theorem CQ:∀{l:List (List UInt8)} {ls:List (List EM)},ls.length=l.length->(∀(i:Nat) r e,l[i]?=some r->ls[i]?=some e->frE r=some e)->allE l=some ls
 |[],ls,h,_=>by rw [List.eq_nil_of_length_eq_zero h];rfl
 |a::l,[],h,_=>by simp at h
 |a::l,e::ls,h,H=>by
  unfold allE
  rw [H 0 a e rfl rfl]
  simp only
  rw [CQ (by simpa using h) (fun i r e q1 q2=>H (i+1) r e (by simpa using q1) (by simpa using q2))]
  rfl
theorem RP (m:MD) (s:Bs) (n:Int):(m.cut s n).2.fs.length=m.fs.length:=by
 unfold MD.cut
 split
 ·rfl
 ·split
  ·rfl
  ·split
   ·rw [MD.bT]
   ·exact MD.length_set _ _ _
set_option maxHeartbeats 8000000 in
theorem L6 (hE:∀f e,E f=some e->e.plain) (T:WaW E) {h:Hp MD} {d:Nat} {x:MD} {s:List UInt8} (hd:Ob h d x) (hn:x.fs.length<=1000000) (h1:1<=s.length) (h2:s.length<=32) (hb:(beginF x s).1.length<=1099511627776):
  WF (lim E) 74 [.ptr d 0, .str s] h fun r h'=>OpenPost h d s (openF x s) r h':=by
 refine aC hE T.open_ rfl ?_
 simp only [oN,mvE,mvS,clE,efE,ceS,ceE,csE,faE,nlE,ldE,lnE,exE,eV,sL,kI,List.map,getS]
 have hmx:(maxLen:Nat)=9223372036854775807:=rfl
 have hdn:=hd.lt
 repeat first|refine ZA ?_|refine BP ?_|refine BQ ?_
 refine ag rfl ((RN hE T hd (by omega) h1 h2).mono fun r g1 ⟨v,e1,r1,o1,k1⟩=> ?_)
 subst e1
 have hbn:(beginF x s).2.2.fs.length<=1000001:=by
  unfold beginF
  cases x.get s with
  |none=>have:=jJ x s;simp only;omega
  |some f=>simp only;omega
 unfold openF
 generalize beginF x s=B at*
 obtain ⟨bs,e0,x1⟩:=B
 simp only at r1 o1 hb hbn ⊢
 by_cases c0:e0≠0
 ·repeat first|refine ZA ?_|refine BP ?_|refine BQ ?_
  rw [if_pos c0]
  exact ⟨k1,o1,rfl⟩
 rw [if_neg c0]
 have c0:e0=0:=by omega
 subst c0
 repeat first|refine ZA ?_|refine BP ?_|refine BQ ?_
 refine ag rfl ((GX hE T.aaW T.RJ T.rd.get T.rd.clone r1 hb).mono fun r g2 ⟨o,e2,k2,rc⟩=> ?_)
 subst e2
 have r2:=r1.up k2
 have o2:=o1.up k2
 have K2:=k1.and k2
 have hal:=Hr (bs.length+1) bs
 have har:=ED (bs.length+1) bs
 unfold EI
 generalize allG (bs.length+1) bs=A at*
 obtain ⟨recs,en,ok⟩:=A
 simp only at rc hal har ⊢
 cases ok with
 |false=>
  repeat first|refine ZA ?_|refine BP ?_|refine BQ ?_
  exact ⟨K2,o2,rfl⟩
 |true=>
  rw [if_pos rfl,if_neg (by decide)]
  repeat first|refine ZA ?_|refine BV (r2.ah (by rfl)) ?_|refine BP ?_|refine BQ ?_
  have hren:=hal.2
  refine uK (fun t' g3=>∃s9 s16 s17,(if en < bs.length then x1.cut s en else (0,x1)).1=0/\Ob g3 d (if en < bs.length then x1.cut s en else (0,x1)).2/\Keep (az d) g2 g3/\t'=[.ptr d 0, .str s, .bU, .ae, .int .i64 0,v, .int .i64 0,o, .int .i64 en,s9, .bot, .bot, .bot, .bot, .bool false, .bool false,s16,s17, .bot, .bot, .bot, .bot, .bot]) ?_ ?_
  ·by_cases hlt:en < bs.length
   ·rw [if_pos hlt]
    have fc:=RP x1 s en
    refine AF rfl (decide_eq_true (by omega)) ?_
    repeat first|refine ZA ?_|refine BP ?_|refine BQ ?_
    refine ag rfl ((aaN hE T.abX o2 (by omega) s en).mono fun r g3 ⟨e3,o3,k3⟩=> ?_)
    subst e3
    generalize x1.cut s en=C at*
    obtain ⟨ec,x2⟩:=C
    simp only at o3 ⊢
    by_cases c1:ec≠0
    ·repeat first|refine ZA ?_|refine BP ?_|refine BQ ?_
     refine LZ ?_
     repeat first|refine ZA ?_|refine BP ?_|refine BQ ?_
     rw [if_pos c1]
     exact ⟨K2.trans k3 (fun _ _ q=>q),o3,rfl⟩
    ·have c1:ec=0:=by omega
     subst c1
     repeat first|refine ZA ?_|refine BP ?_|refine BQ ?_
     exact bK ⟨_,_,_,(by simp),o3,k3,rfl⟩
   ·rw [if_neg hlt]
    refine AG rfl (decide_eq_false (by omega)) ?_
    repeat first|refine ZA ?_|refine BP ?_|refine BQ ?_
    exact bK ⟨_,_,_,rfl,o2,Keep.refl _ _,rfl⟩
  rintro t' g3 ⟨s9,s16,s17,c1,o3,k3,rfl⟩
  generalize (if en < bs.length then x1.cut s en else (0,x1))=C at*
  obtain ⟨ec,x2⟩:=C
  simp only at c1 o3 ⊢
  subst c1
  rw [if_neg (by simp)]
  obtain ⟨cells,ro,lo,hrc⟩:=rc
  have n1:=k1.n
  have n2:=k2.n
  have n3:=k3.n
  have ro3:=ro.keep k3 (fun k q1 q2=>by have:=lo k q1;have q2:k=d:=q2;omega)
  have K3:Keep (az d) h g3:=K2.trans k3 (fun _ _ q=>q)
  repeat first|refine ZA ?_|refine BV (ro3.rs.ah (by rfl)) ?_|refine BP ?_|refine BQ ?_
  refine aQ (fun n t hh=>∃(i:Nat) (done:List (List EM)) (bv s11 s12 s13 s21 s22:AV),i<=recs.length/\done.length=i/\n=recs.length - i/\Keep NoB g3 hh/\OB hh bv done g3.n (fun k=>g3.n<=k)/\(∀(j:Nat) r e,recs[j]?=some r->done[j]?=some e->frE r=some e)/\
   t=[.ptr d 0, .str s, .bU, .ae, .int .i64 0,v, .int .i64 0,o, .int .i64 en,s9,bv,s11,s12,s13, .bool false, .bool false,s16,s17,o, .int .i64 recs.length, .int .i64 i,s21,s22]) ?_ recs.length _ _ ⟨0,[], .ae,_,_,_,_,_,by omega,rfl,by omega,Keep.refl _ _,OB.nil,by simp,rfl⟩
  rintro n t hh ⟨i,done,bv,s11,s12,s13,s21,s22,hi,hdl,hm,K,ob,hdone,rfl⟩
  have nK:=K.n
  have o5:=o3.up K
  by_cases hlt:i < recs.length
  ·obtain ⟨r,he⟩:∃r,recs[i]?=some r:=⟨_,List.getElem?_eq_getElem hlt⟩
   obtain ⟨c,hc,hcs,rcc,hcb⟩:=hrc i r he
   have rc3:=(rcc.keep k3 (fun k q1 q2=>by have:=(hcb k q1).1;have q2:k=d:=q2;omega)).up K
   have ro5:=(ro3.up K).rs
   obtain ⟨g,og,pa,la⟩:=ro5.at2 hlt
   have lc:∀{e:En} {t:List AV} {x:Od},x.ev e t= .ptr g og->(Mv.ld1 x).ev e t hh=some c:=fun {_ _ _} hx=>by rw [la (Keep.refl NoB hh) (fun _ _ q=>q) hx];exact hc
   have hrb:=har r (List.mem_of_getElem? he)
   repeat first|refine ZA ?_|refine BV (pa rfl rfl) ?_|refine BV (lc rfl) ?_|refine BP ?_|refine BQ ?_
   refine ag rfl ((EH hE T.toWaN rc3 hcs (by omega)).mono fun w g6 ⟨k6,e6⟩=> ?_)
   cases hf:frE r with
   |none=>
    rw [hf] at e6
    have e6:w= .tup [.ae, .int .i64 12]:=e6
    subst e6
    repeat first|refine ZA ?_|refine BP ?_|refine BQ ?_
    rw [CP he hf]
    exact ⟨(K3.and K).and k6,o5.up k6,rfl⟩
   |some l=>
    rw [hf] at e6
    obtain ⟨u,e6,ef⟩:∃u,w= .tup [u, .int .i64 0]/\aN g6 u l (fun k=>hh.n<=k):=e6
    subst e6
    have oln:=ob.lt
    have olo:=ob.lo
    have n6:=k6.n
    have ef2:aN g6 u l (fun k=>g3.n<=k/\¬blk bv k):=ef.on (fun k q=>⟨by omega,fun q2=>by have:=oln k q2;omega⟩)
    obtain ⟨cs,p1,p2,p3⟩:=(ob.up k6).next ef2 (by omega)
    repeat first|refine ZA ?_|refine BW (dO rfl ef2.one.1 ef2.one.2) ?_|refine BP ?_|refine BQ ?_
    refine aA rfl rfl p1 (by decide) p2 (by omega) (by omega) fun v' h' a1 a2 a3=> ?_
    obtain ⟨p4,p5⟩:=p3 v' h' a1 a2 a3
    repeat first|refine ZA ?_|refine BP ?_|refine BQ ?_
    rw [show ((i:Int)+1)=((i+1:Nat):Int) by omega]
    refine aj (n - 1) (by omega) ⟨i+1,done++[l],v',_,_,_,_,_,by omega,by rw [List.length_append];simp [hdl],by omega,(K.and k6).own p5 olo,p4, ?_,rfl⟩
    intro j r' e' h1 h2
    by_cases hj:j < done.length
    ·rw [List.getElem?_append_left hj] at h2
     exact hdone j r' e' h1 h2
    ·have h3:=(List.getElem?_eq_some_iff.1 h2).1
     rw [List.length_append,List.length_singleton] at h3
     have h4:j=done.length:=by omega
     subst h4
     rw [List.getElem?_append_right (Nat.le_refl _),Nat.sub_self] at h2
     simp at h2
     subst h2
     rw [hdl,he] at h1
     cases h1
     exact hf
  ·obtain ⟨cd,rsd⟩:=ob.rs
   have e:i=recs.length:=by omega
   have kp:Keep NoB hh (hh.push (.rw [.ptr d 0, .str s, .int .i64 done.length])):=Keep.push _ _ _
   repeat first|refine ZA ?_|refine BV (rsd.ah (by rfl)) ?_|refine BV (Jt rfl rfl rfl rfl rfl rfl) ?_|refine BW (iD rfl rfl) ?_|refine BP ?_|refine BQ ?_
   rw [CQ (by omega) hdone]
   refine ⟨(K3.and K).and kp,o5.up kp,hh.n,bv,rfl,by omega,aH, ?_⟩
   exact ((ob.Zr (G:=fun k=>g3.n<=k) (fun k q1 _=>q1) (fun k q=>q)).lt.up kp).on (fun k q=>by omega)
end
def iI:BF:=⟨58,[0,1,2,3,8,9,10,11,20,39,44],(.seq (.reg [mvS 4 (.mv (.const .ae))]) (.seq (.reg [mvS 5 (.mv (.const .ae))]) (.seq (.seq (.reg [mvS 6 (.mv (.const (.int .i64 0)))]) (.block 0 (.loop (.seq (.seq (.reg [ceS 12 6,ceS 13 0,lnE 14 13,mvE 15 (.bin .lss .no (eV 12) (eV 14)),ceE 16 15, .mk (some ((eV 16),true)) (.env 17) (.mov (.mv (sL 6))), .mk (some ((eV 16),true)) (.env 18) (.mov (.mv (sL 1))), .mk (some ((eV 16),true)) (.env 19) (.mov (.bin .lss .no (eV 17) (eV 18))),mvS 8 (.pick (eV 16) (eV 19) (.const (.bool false)))]) (.cond (sL 8) .skip (.exit 0))) (.seq (.block 1 (.seq (.iC [(ceS 23 0,[]),(ceS 24 6,[]),(mvE 25 (.aP 3 (eV 23) (eV 24)),[]),(faE 26 0 25,[]),(ldE 27 26,[]),(ceS 28 2,[]),(ceS 30 0,[]),(ceS 31 6,[]),(mvE 32 (.aP 3 (eV 30) (eV 31)),[]),(faE 33 2 32,[]),(ldE 34 33,[]),(.mk none (.slot 7) (.eff (.alloc [.ae, .ae,(.bool false)])),[0,1,2,3,4,5,6,7,8,9,10]),(clE 29 21 [eV 27,eV 28],[6,7,8,9,10,11]),(mvE 35 (.bld [.ae, .ae,(.bool false)] [(0,1,(eV 29)),(2,1,(eV 34))]),[]),(.mk none .none (.eff (.store 3 (sL 7) (eV 35))),[])]) (.seq (.seq (.reg [mvE 36 (.aG 0 (sL 7)),ldE 37 36,lnE 38 37,mvS 9 (.bin .eql .no (eV 38) (.const (.int .i64 0)))]) (.cond (sL 9) (.reg [efE 40 (.aF 1 1 [(.int .u8 0)] [(0,1,(.const (.int .u8 107)))]),mvE 41 (.aG 0 (sL 7)), .mk none .none (.eff (.store 1 (eV 41) (eV 40)))]) .skip)) (.seq (.seq (.reg [mvE 42 (.aG 2 (sL 7)),ldE 43 42,mvS 10 (.jd (eV 43))]) (.cond (sL 10) (.reg [ceS 45 0,ceS 46 6,mvE 47 (.aP 3 (eV 45) (eV 46)),faE 48 1 47,ldE 49 48,ceS 50 3,clE 51 21 [eV 49,eV 50],mvE 52 (.aG 1 (sL 7)), .mk none .none (.eff (.store 1 (eV 52) (eV 51)))]) .skip)) (.reg [ceS 53 5,mvE 54 (.ldn 3 (sL 7)),efE 55 (.aF 3 1 [.ae, .ae,(.bool false)] [(0,3,(eV 54))]),efE 56 (.append 3 56 (eV 53) (eV 55)),csE 5 56]))))) (.reg [ceS 21 6,mvE 22 (.bin .add .no (eV 21) (.const (.int .i64 1))),csE 6 22])))))) (.seq (.reg [ceS 57 5,csE 4 57]) .ret)))),[.slot (sL 4)]⟩
def jB (kl vl:Nat) (e:EM):EM:=⟨(if (e.key.take kl).length=0 then [107] else e.key.take kl),(if e.gone then [] else e.val.take vl),e.gone⟩
def xO (n kl vl:Nat) (l:List EM):List EM:=(l.take n).map (jB kl vl)
theorem uM {α β:Type} {f:α->β} {l:List α} {i:Nat} {e:α} (he:l[i]?=some e):(l.take (i+1)).map f=(l.take i).map f++[f e]:=by
 rw [List.take_add_one,he,List.map_append]
 rfl
section
variable {X:Type} {E:Nat->Option (Ent X)}
theorem yF {e:En} {t:List AV} {h:Hp X} {z0 z1 z2:AV} {x z:Od} {a c:AV} (hx:x.ev e t=a) (hz:z.ev e t=c) (ha:cellsOf a=some [a]) (hc:cellsOf c=some [c]):
  (Mv.bld [z0,z1,z2] [(0,1,x),(2,1,z)]).ev e t h=some (.agg [a,z1,c]):=by
 simp only [Mv.ev,List.map,hx,hz,fillA,ha,hc]
 rfl
structure WaK (E:Nat->Option (Ent X)):Prop where
 cut:E 21=some (.bc lF)
 Wj:E 43=some (.bc iI)
set_option maxHeartbeats 8000000 in
theorem Wp (hE:∀f e,E f=some e->e.plain) (T:WaK E) {h:Hp X} {v:AV} {l:List EM} {n kl vl:Nat} {F:Nat->Prop} (ha:aN h v l F) (hn:n<=1000000) (hk:kl<=1000000) (hv:vl<=1000000) (hll:l.length<=maxLen):
  WF (lim E) 43 [v, .int .i64 n, .int .i64 kl, .int .i64 vl] h fun r h'=>Keep NoB h h'/\OE h' r (xO n kl vl l) h.n (fun k=>F k\/h.n<=k):=by
 obtain ⟨tri,hr,htl,hq,_,hF⟩:=ha.out
 refine aC hE T.Wj rfl ?_
 simp only [iI,mvE,mvS,clE,efE,ceS,ceE,csE,faE,nlE,ldE,lnE,exE,eV,sL,kI,List.map,getS]
 have hmx:(maxLen:Nat)=9223372036854775807:=rfl
 repeat first|refine ZA ?_|refine BP ?_|refine BQ ?_
 refine aQ (fun m t hh=>∃(i:Nat) (bv s7 s8 s9 s10:AV),i<=l.length/\i<=n/\m=l.length - i/\Keep NoB h hh/\OE hh bv ((l.take i).map (jB kl vl)) h.n (fun k=>F k\/h.n<=k)/\
  t=[v, .int .i64 n, .int .i64 kl, .int .i64 vl, .ae,bv, .int .i64 i,s7,s8,s9,s10]) ?_ l.length _ _ ⟨0, .ae,_,_,_,_,by omega,by omega,by omega,Keep.refl _ _,OE.nil,rfl⟩
 rintro m t hh ⟨i,bv,s7,s8,s9,s10,hi,hin,hm,K,oe,rfl⟩
 have hr':=hr.up K
 by_cases hlt:i < l.length
 ·by_cases hlt2:i < n
  ·obtain ⟨e,he⟩:∃e,l[i]?=some e:=⟨_,List.getElem?_eq_getElem hlt⟩
   obtain ⟨q,hqi⟩:∃q,tri[i]?=some q:=⟨_,List.getElem?_eq_getElem (by omega)⟩
   have hv0:=(hq i q e hqi he).up K
   have aaY:=(hq i q e hqi he).lt
   obtain ⟨ga,oa,pa,la,na⟩:=hr.at3 hqi
   obtain ⟨kv,vv,gb⟩:=q
   have hgb:=hv0.gone
   have hkv:=hv0.key
   have hvv:=hv0.val
   have Zt:=hv0.nse
   simp only at hgb hkv hvv Zt
   subst hgb
   have l0:∀{g':Hp X},Keep NoB hh g'->∀{e':En} {t:List AV} {x:Od},x.ev e' t= .ptr ga oa->(Mv.ld1 x).ev e' t g'=some kv:=fun {_} kk {_ _ _} hx=>la (S:=NoB) (K.and kk) (fun _ _ q=>q) (j:=0) hx (by decide)
   have l1:∀{g':Hp X},Keep NoB hh g'->∀{e':En} {t:List AV} {x:Od},x.ev e' t= .ptr ga (oa+1)->(Mv.ld1 x).ev e' t g'=some vv:=fun {_} kk {_ _ _} hx=>la (S:=NoB) (K.and kk) (fun _ _ q=>q) (j:=1) hx (by decide)
   have l2:∀{g':Hp X},Keep NoB hh g'->∀{e':En} {t:List AV} {x:Od},x.ev e' t= .ptr ga (oa+2)->(Mv.ld1 x).ev e' t g'=some (.bool e.gone):=fun {_} kk {_ _ _} hx=>la (S:=NoB) (K.and kk) (fun _ _ q=>q) (j:=2) hx (by decide)
   have r0:=Keep.refl NoB hh
   repeat first|refine ZA ?_|refine BV (hr'.ah (by rfl)) ?_|refine BP ?_|refine BQ ?_
   repeat first|refine ZI ?_|refine CB (pa rfl rfl) ?_|refine CB (l0 r0 rfl) ?_|refine CB (l2 r0 rfl) ?_|refine BV (pa rfl rfl) ?_|refine BV (l0 r0 rfl) ?_|refine BV (l2 r0 rfl) ?_|refine BP ?_|refine BQ ?_|refine CC ?_
   have b1:Bx (hh.push (.rw [.ae, .ae, .bool false])) hh.n _:=aH
   have k1:Keep NoB hh (hh.push (.rw [.ae, .ae, .bool false])):=Keep.push _ _ _
   refine zB (aZ rfl rfl (aZ rfl rfl (aZ rfl (pa rfl rfl) (aZ rfl rfl (aZ rfl (l0 k1 rfl) (aZ rfl rfl (aZ rfl rfl (aZ rfl rfl (aZ rfl (pa rfl rfl) (aZ rfl rfl (aZ rfl (l2 k1 rfl) aW))))))))))) ?_
   simp only [setS]
   refine bF rfl ((Jz hE T.cut (hkv.up k1) hk).mono fun kc h2 ⟨e2,rk,bk,_⟩=> ?_)
   subst e2
   refine ⟨(aZ rfl rfl (aZ rfl rfl (aZ rfl (pa rfl rfl) (aZ rfl rfl (aZ rfl (l2 k1 rfl) (Ew rfl b1.get aW)))))), ?_⟩
   have hall:allOne [kc, .ae, .bool e.gone]=true:=aX rk.one.2 rfl rfl
   repeat first|refine ZI ?_|refine CB (yF rfl rfl rk.one.1 rfl) ?_|refine BV (yF rfl rfl rk.one.1 rfl) ?_|refine BP ?_|refine BQ ?_|refine CC ?_
   refine rD (aV b1 rfl rfl hall rfl (Nat.le_refl _)) aW ?_
   obtain ⟨h2,hh2⟩:∃h2:Hp X,h2=(hh.push (.rw [.ae, .ae, .bool false])).put hh.n (.rw [kc, .ae, .bool e.gone]):=⟨_,rfl⟩
   refine mY (h':=h2) (by rw [hh2];rfl) ?_
   have b2:Bx h2 hh.n [kc, .ae, .bool e.gone]:=by rw [hh2];exact b1.put
   have kq:Keep (az hh.n) (hh.push (.rw [.ae, .ae, .bool false])) h2:=by rw [hh2];exact Keep.put _ _ _ rfl
   have k2:Keep NoB hh h2:=k1.own kq (fun k q=>by have q:k=hh.n:=q;omega)
   have rk2:=rk.keep kq (fun k q1 q2=>by have:=hkv.lt k (bk k q1);have q2:k=hh.n:=q2;omega)
   have n2:h2.n=hh.n+1:=by rw [hh2];rfl
   clear hh2
   have oln:=oe.lt
   have olo:=oe.lo
   have nK:=K.n
   have fin:∀{h4:Hp X} {kx vx:AV},Keep NoB hh h4->RS h4 1 kx (jB kl vl e).key.length ((jB kl vl e).key.map ub)->RS h4 1 vx (jB kl vl e).val.length ((jB kl vl e).val.map ub)->vx≠ .bV->(∀k,blk kx k\/blk vx k->(F k\/h.n<=k)/\¬blk bv k)->
     ∃cells,OS (h4.push (.rw [kx,vx, .bool e.gone])) 3 bv ((l.take i).map (jB kl vl)).length cells/\RS (h4.push (.rw [kx,vx, .bool e.gone])) 3 (.slice 3 h4.n 0 1 (some 1)) 1 [kx,vx, .bool e.gone]/\∀v' h',OS h' 3 v' (((l.take i).map (jB kl vl)).length+1) (cells++[kx,vx, .bool e.gone])->Keep (blk bv) (h4.push (.rw [kx,vx, .bool e.gone])) h'->(∀g,blk v' g->blk bv g\/(h4.push (.rw [kx,vx, .bool e.gone])).n<=g)->OE h' v' ((l.take (i+1)).map (jB kl vl)) h.n (fun k=>F k\/h.n<=k)/\Keep NoB h h':=fun {h4 kx vx} kk a b se c=>by
    have kn:=K.n
    have kn4:=kk.n
    obtain ⟨cells,o1,o2,o3⟩:=(oe.up kk).next (q:=(kx,vx,e.gone)) (e:=jB kl vl e) ⟨rfl,a,b,se⟩ c (by omega)
    refine ⟨cells,o1,o2,fun v' h' a1 a2 a3=> ?_⟩
    obtain ⟨p1,p2⟩:=o3 v' h' a1 a2 a3
    rw [uM he]
    exact ⟨p1,(K.and kk).own p2 oe.lo⟩
   have hlm:((l.take i).map (jB kl vl)).length=i:=by rw [List.length_map,List.length_take];omega
   have hkE:(jB kl vl e).key=if (e.key.take kl).length=0 then [107] else e.key.take kl:=rfl
   have hvE:(jB kl vl e).val=if e.gone then [] else e.val.take vl:=rfl
   have vv2:=hvv.up k2
   have bkn:∀k,blk kc k->(F k\/h.n<=k)/\¬blk bv k:=fun k hk=>⟨.inl (hF _ (List.mem_of_getElem? hqi) k (.inl (bk k hk))),fun q=>by have:=aaY k (.inl (bk k hk));have:=olo k q;omega⟩
   have bvn:∀k,blk vv k->(F k\/h.n<=k)/\¬blk bv k:=fun k hk=>⟨.inl (hF _ (List.mem_of_getElem? hqi) k (.inr hk)),fun q=>by have:=aaY k (.inr hk);have:=olo k q;omega⟩
   have fin2:∀{a b c d:AV} {h':Hp X} {v':AV},OE h' v' ((l.take (i+1)).map (jB kl vl)) h.n (fun k=>F k\/h.n<=k)/\Keep NoB h h'->∃(j:Nat) (bv s7 s8 s9 s10:AV),j<=l.length/\j<=n/\m - 1=l.length - j/\Keep NoB h h'/\OE h' bv ((l.take j).map (jB kl vl)) h.n (fun k=>F k\/h.n<=k)/\
     [v, .int .i64 n, .int .i64 kl, .int .i64 vl, .ae,v', .int .i64 ((i:Int)+1),a,b,c,d]=[v, .int .i64 n, .int .i64 kl, .int .i64 vl, .ae,bv, .int .i64 j,s7,s8,s9,s10]:=fun {a b c d h' v'} p=>by
    rw [show ((i:Int)+1)=((i+1:Nat):Int) by omega]
    exact ⟨i+1,v',_,_,_,_,by omega,by omega,by omega,p.2,p.1,rfl⟩
   by_cases hz:(e.key.take kl).length=0
   ·rw [if_pos hz] at hkE
    have hz0:kc=kc:=rfl
    have k3:Keep NoB h2 (h2.push (.rw [.int .u8 107])):=Keep.push _ _ _
    have b3:=b2.up k3
    have k4:Keep (az hh.n) (h2.push (.rw [.int .u8 107])) ((h2.push (.rw [.int .u8 107])).put hh.n (.rw [.slice 1 h2.n 0 1 (some 1), .ae, .bool e.gone])):=Keep.put _ _ _ rfl
    have b4:Bx ((h2.push (.rw [.int .u8 107])).put hh.n (.rw [.slice 1 h2.n 0 1 (some 1), .ae, .bool e.gone])) hh.n [.slice 1 h2.n 0 1 (some 1), .ae, .bool e.gone]:=b3.put
    have rk4:RS ((h2.push (.rw [.int .u8 107])).put hh.n (.rw [.slice 1 h2.n 0 1 (some 1), .ae, .bool e.gone])) 1 (.slice 1 h2.n 0 1 (some 1)) (jB kl vl e).key.length ((jB kl vl e).key.map ub):=by
     rw [hkE]
     exact (bH (n:=1) (z:=1) (l:=[.int .u8 107]) rfl).keep k4 (fun k q1 q2=>by have q1:k=h2.n:=q1;have q2:k=hh.n:=q2;omega)
    have K4:=(k2.and k3).own k4 (fun k q=>by have q:k=hh.n:=q;omega)
    have vv4:=hvv.up K4
    have bs4:∀k,blk (.slice 1 h2.n 0 1 (some 1)) k->(F k\/h.n<=k)/\¬blk bv k:=fun k hk=>⟨.inr (by have hk:k=h2.n:=hk;omega),fun q=>by have hk:k=h2.n:=hk;have:=oln k q;omega⟩
    obtain ⟨h4,hh4⟩:∃h4:Hp X,h4=(h2.push (.rw [.int .u8 107])).put hh.n (.rw [.slice 1 h2.n 0 1 (some 1), .ae, .bool e.gone]):=⟨_,rfl⟩
    rw [<-hh4] at b4 rk4 K4 vv4
    repeat first|refine ZI ?_|refine CB (au b2 rfl rfl) ?_|refine CB (rk2.ah (by rfl)) ?_|refine BV (au b2 rfl rfl) ?_|refine BV (rk2.ah (by rfl)) ?_|refine BW (Eo rfl) ?_|refine BW (fQ b3 rfl rfl ⟨rfl,rfl⟩ (Nat.zero_lt_succ _)) ?_|refine BP ?_|refine BQ ?_|refine CC ?_
    refine aJ (h':=h4) (by rw [hh4];rfl) ?_
    clear hh4 k4 b3 k3
    cases hg:e.gone with
    |true=>
     rw [hg] at b4 hvE
     obtain ⟨cells,o1,o2,o3⟩:=fin (kx:= .slice 1 h2.n 0 1 (some 1)) (vx:= .ae) K4 rk4 (by rw [hvE];exact ⟨rfl,rfl⟩) (fun q=>by cases q) (fun k hk=>hk.elim (bs4 k) (fun q=>q.elim))
     rw [hg] at o1 o2 o3
     repeat first|refine ZA ?_|refine BV (au b4 rfl rfl) ?_|refine BV (dh b4 rfl (Nat.le_refl _)) ?_|refine BW (ji rfl rfl rfl) ?_|refine BP ?_|refine BQ ?_
     refine aA rfl rfl o1 (by decide) o2 (by omega) (by omega) fun v' h' a1 a2 a3=> ?_
     repeat first|refine ZA ?_|refine BP ?_|refine BQ ?_
     exact aj (m - 1) (by omega) (fin2 (o3 v' h' a1 a2 a3))
    |false=>
     rw [hg] at b4 hvE
     repeat first|refine ZA ?_|refine BV (au b4 rfl rfl) ?_|refine BV (pa rfl rfl) ?_|refine BV (l1 K4 rfl) ?_|refine BP ?_|refine BQ ?_
     refine ag rfl ((Jz hE T.cut vv4 hv).mono fun vc h5 ⟨e5,rv,bv5,sv5⟩=> ?_)
     have e5:=e5.symm;subst e5
     have k5:Keep (az hh.n) h4 (h4.put hh.n (.rw [.slice 1 h2.n 0 1 (some 1),vc, .bool false])):=Keep.put _ _ _ rfl
     have b5:Bx (h4.put hh.n (.rw [.slice 1 h2.n 0 1 (some 1),vc, .bool false])) hh.n [.slice 1 h2.n 0 1 (some 1),vc, .bool false]:=b4.put
     have rk5:=rk4.keep k5 (fun k q1 q2=>by have q1:k=h2.n:=q1;have q2:k=hh.n:=q2;omega)
     have rv5:=rv.keep k5 (fun k q1 q2=>by have:=hvv.lt k (bv5 k q1);have q2:k=hh.n:=q2;omega)
     obtain ⟨cells,o1,o2,o3⟩:=fin (kx:= .slice 1 h2.n 0 1 (some 1)) (vx:=vc) (K4.own k5 (fun k q=>by have q:k=hh.n:=q;omega)) rk5 (by rw [hvE];exact rv5) (sv5 Zt) (fun k hk=>hk.elim (bs4 k) (fun q=>bvn k (bv5 k q)))
     rw [hg] at o1 o2 o3
     repeat first|refine ZA ?_|refine BV (au b5 rfl rfl) ?_|refine BV (dh b5 rfl (Nat.le_refl _)) ?_|refine BW (fQ b4 rfl rfl rv.one (Nat.succ_lt_succ (Nat.zero_lt_succ _))) ?_|refine BW (ji rfl rfl rv.one.2) ?_|refine BP ?_|refine BQ ?_
     refine aA rfl rfl o1 (by decide) o2 (by omega) (by omega) fun v' h' a1 a2 a3=> ?_
     repeat first|refine ZA ?_|refine BP ?_|refine BQ ?_
     exact aj (m - 1) (by omega) (fin2 (o3 v' h' a1 a2 a3))
   ·rw [if_neg hz] at hkE
    cases hg:e.gone with
    |true=>
     rw [hg] at b2 hvE
     obtain ⟨cells,o1,o2,o3⟩:=fin (kx:=kc) (vx:= .ae) k2 (by rw [hkE];exact rk2) (by rw [hvE];exact ⟨rfl,rfl⟩) (fun q=>by cases q) (fun k hk=>hk.elim (bkn k) (fun q=>q.elim))
     rw [hg] at o1 o2 o3
     repeat first|refine ZI ?_|refine CB (au b2 rfl rfl) ?_|refine CB (rk2.ah (by rfl)) ?_|refine CB (dh b2 rfl (Nat.le_refl _)) ?_|refine BV (au b2 rfl rfl) ?_|refine BV (rk2.ah (by rfl)) ?_|refine BV (dh b2 rfl (Nat.le_refl _)) ?_|refine BW (ji rfl rk2.one.2 rfl) ?_|refine BP ?_|refine BQ ?_|refine CC ?_
     refine aA rfl rfl o1 (by decide) o2 (by omega) (by omega) fun v' h' a1 a2 a3=> ?_
     repeat first|refine ZA ?_|refine BP ?_|refine BQ ?_
     exact aj (m - 1) (by omega) (fin2 (o3 v' h' a1 a2 a3))
    |false=>
     rw [hg] at b2 hvE
     repeat first|refine ZI ?_|refine CB (au b2 rfl rfl) ?_|refine CB (rk2.ah (by rfl)) ?_|refine CB (pa rfl rfl) ?_|refine CB (l1 k2 rfl) ?_|refine BV (au b2 rfl rfl) ?_|refine BV (rk2.ah (by rfl)) ?_|refine BV (pa rfl rfl) ?_|refine BV (l1 k2 rfl) ?_|refine BP ?_|refine BQ ?_|refine CC ?_
     refine ag rfl ((Jz hE T.cut vv2 hv).mono fun vc h5 ⟨e5,rv,bv5,sv5⟩=> ?_)
     have e5:=e5.symm;subst e5
     have k5:Keep (az hh.n) h2 (h2.put hh.n (.rw [kc,vc, .bool false])):=Keep.put _ _ _ rfl
     have b5:Bx (h2.put hh.n (.rw [kc,vc, .bool false])) hh.n [kc,vc, .bool false]:=b2.put
     have rk5:=rk2.keep k5 (fun k q1 q2=>by have:=hkv.lt k (bk k q1);have q2:k=hh.n:=q2;omega)
     have rv5:=rv.keep k5 (fun k q1 q2=>by have:=hvv.lt k (bv5 k q1);have q2:k=hh.n:=q2;omega)
     obtain ⟨cells,o1,o2,o3⟩:=fin (kx:=kc) (vx:=vc) (k2.own k5 (fun k q=>by have q:k=hh.n:=q;omega)) (by rw [hkE];exact rk5) (by rw [hvE];exact rv5) (sv5 Zt) (fun k hk=>hk.elim (bkn k) (fun q=>bvn k (bv5 k q)))
     rw [hg] at o1 o2 o3
     repeat first|refine ZA ?_|refine BV (au b5 rfl rfl) ?_|refine BV (dh b5 rfl (Nat.le_refl _)) ?_|refine BW (fQ b2 rfl rfl rv.one (Nat.succ_lt_succ (Nat.zero_lt_succ _))) ?_|refine BW (ji rfl rk2.one.2 rv.one.2) ?_|refine BP ?_|refine BQ ?_
     refine aA rfl rfl o1 (by decide) o2 (by omega) (by omega) fun v' h' a1 a2 a3=> ?_
     repeat first|refine ZA ?_|refine BP ?_|refine BQ ?_
     exact aj (m - 1) (by omega) (fin2 (o3 v' h' a1 a2 a3))
  ·repeat first|refine ZA ?_|refine BV (hr'.ah (by rfl)) ?_|refine BP ?_|refine BQ ?_
   rw [xO,List.take_eq_take_iff.2 (show min n l.length=min i l.length by omega)]
   exact ⟨K,oe⟩
 ·repeat first|refine ZA ?_|refine BV (hr'.ah (by rfl)) ?_|refine BP ?_|refine BQ ?_
  rw [xO,List.take_eq_take_iff.2 (show min n l.length=min i l.length by omega)]
  exact ⟨K,oe⟩
end
def laidB (ls:List (List EM)):List UInt8:=ls.flatMap fun l=>cu (dF l)
section
variable {X:Type} {D:Dp X} {l:Dr} {past:List (Pa X)} {e e':En} {t t':List AV} {h:Hp X} {Q:R X->Prop}
theorem CU {g:Od×Bool} {d:Ds} {o:Op1} {chk:List Nat} (hg:gdv (some g) e t=some false) (H:WD D l (past++[.skip]) e' t' h Q) (he:putE d (.tup []) e=e':=by conv=>lhs;whnf) (ht:putT d (.tup []) t=t':=by conv=>lhs;whnf):WD D ((.mk (some g) d o,chk)::l) past e t h Q:=by
 subst he ht
 obtain ⟨t',h',h1,h2⟩:=H.out
 refine ⟨⟨t',h', ?_,h2⟩⟩
 simp only [drGo,St1.g,St1.o,St1.d,hg] at h1 ⊢
 exact h1
end
section
variable {X:Type}
theorem RS.clip {h:Hp X} {n:Nat} {v:AV} {cells:List AV} (a:RS h 1 v n cells):∃v',RS h 1 v' n cells/\(∀g,blk v' g->blk v g)/\
  ∀{hh:Hp X} {e:En} {t:List AV} {x y z:Od} {j k:IntKind},x.ev e t=v->y.ev e t= .int j (n:Int)->z.ev e t= .int k (n:Int)->(Mv.sl 1 x none (some y) (some z)).ev e t hh=some v':=by
 cases v<;>first|exact a.elim|skip
 ·rename_i z' g o n' cap
  obtain ⟨rfl,rfl,hg,l,hl,hle,rfl⟩:=a
  refine ⟨.slice 1 g (o+0*1) (n' - 0) (some (n' - 0)),⟨rfl,by omega,hg,l,hl,by omega,by simp⟩,fun g hg=>hg,fun {hh e t x y z j k} hx hy hz=> ?_⟩
  have hc:Ak hh 1 g o n' cap n'=true:=by unfold Ak;rw [dK (Nat.le_refl _)];rfl
  simp only [Mv.ev,hx,slB,Nat.beq_refl,Bool.not_true,cond_false,oev,hz,hy,jQ,hc,cond_true,dK (Nat.le_refl n')]
 ·obtain ⟨rfl,rfl⟩:=a
  refine ⟨.ae,⟨rfl,by simp⟩,fun g hg=>hg,fun {hh e t x y z j k} hx hy hz=> ?_⟩
  simp only [Mv.ev,hx,slB,oev,hy,hz]
  rfl
 ·obtain ⟨rfl,rfl⟩:=a
  refine ⟨.bV,⟨rfl,by simp⟩,fun g hg=>hg,fun {hh e t x y z j k} hx hy hz=> ?_⟩
  simp only [Mv.ev,hx,slB,oev,hy,hz]
  rfl
end
section
variable {E:Nat->Option (Ent MD)}
theorem Wq (hE:∀f e,E f=some e->e.plain) (hf:E 107=some (.bc tq)) {h:Hp MD} {v:AV} {bs:List UInt8} (hr:RS h 1 v bs.length (bs.map ub)):
  WF (lim E) 107 [v] h fun r h'=>h'=h/\RS h 1 r bs.length (bs.map ub)/\∀k,blk r k->blk v k:=by
 refine aC hE hf rfl ?_
 simp only [tq,mvE,mvS,clE,efE,ceS,ceE,csE,faE,nlE,ldE,lnE,exE,eV,sL,kI,List.map,getS]
 obtain ⟨v',r',bk,cl⟩:=hr.clip
 repeat first|refine ZA ?_|refine BV (hr.ah (by rfl)) ?_|refine BV (cl rfl rfl rfl) ?_|refine BP ?_|refine BQ ?_
 exact ⟨rfl,r',bk⟩
theorem Ht (hE:∀f e,E f=some e->e.plain) (T:WaW E) {h:Hp MD} {d g:Nat} {s:List UInt8} {n:Int} (hb:Bx h g [.ptr d 0, .str s, .int .i64 n]):
  WF (lim E) 83 [.ptr g 0] h fun r h'=>r= .str s/\h'=h:=by
 refine aC hE T.aaV rfl ?_
 simp only [oP,mvE,mvS,clE,efE,ceS,ceE,csE,faE,nlE,ldE,lnE,exE,eV,sL,kI,List.map,getS]
 repeat first|refine ZA ?_|refine BV (ak rfl) ?_|refine BV (au hb rfl rfl) ?_|refine BP ?_|refine BQ ?_
 exact ⟨rfl,rfl⟩
theorem RQ (hE:∀f e,E f=some e->e.plain) (T:WaW E) {h:Hp MD} {d g:Nat} {x:MD} {s:List UInt8} {n:Int} (hb:Bx h g [.ptr d 0, .str s, .int .i64 n]) (hd:Ob h d x) (hn:x.fs.length<=1000000):
  WF (lim E) 63 [.ptr g 0] h fun r h'=>r= .int .i64 (x.sync s).1/\Ob h' d (x.sync s).2/\Keep (az d) h h':=by
 refine aC hE T.aaU rfl ?_
 simp only [oO,mvE,mvS,clE,efE,ceS,ceE,csE,faE,nlE,ldE,lnE,exE,eV,sL,kI,List.map,getS]
 repeat first|refine ZI ?_|refine CB (ak rfl) ?_|refine CB (au hb rfl rfl) ?_|refine BV (ak rfl) ?_|refine BV (au hb rfl rfl) ?_|refine BP ?_|refine BQ ?_|refine CC ?_
 refine bF rfl ((nD hE T.sync hd (by omega) s).mono fun r h2 ⟨e2,o2,k2⟩=> ?_)
 subst e2
 refine ⟨aW, ?_⟩
 repeat first|refine ZI ?_|refine BP ?_|refine BQ ?_|refine CC ?_
 exact ⟨rfl,o2,k2⟩
def EJ (h:Hp MD) (d g:Nat) (x:MD) (s:List UInt8) (n:Int) (l:List EM) (r:AV) (h':Hp MD):Prop:=
 if mM l then r= .int .i64 (x.append s (cu (dF l))).1/\Ob h' d (x.append s (cu (dF l))).2/\Bx h' g [.ptr d 0, .str s, .int .i64 (if (x.append s (cu (dF l))).1=0 then n+1 else n)]/\Keep (fun k=>k=d\/k=g) h h'
 else r= .int .i64 3/\Keep NoB h h'
theorem Zu (hE:∀f e,E f=some e->e.plain) (T:WaW E) {h:Hp MD} {d g:Nat} {x:MD} {s:List UInt8} {n:Int} {v:AV} {l:List EM} (hb:Bx h g [.ptr d 0, .str s, .int .i64 n]) (hd:Ob h d x) (hn:x.fs.length<=1000000) (hdg:d≠g) (h0:0<=n) (h1:n<=1000000) (hl:Zp h v l) (hll:l.length<=1000000) (hbl:mM l=true->(dF l).length<=1048576):
  WF (lim E) 62 [.ptr g 0,v] h fun r h'=>EJ h d g x s n l r h':=by
 refine aC hE T.add rfl ?_
 simp only [rE,mvE,mvS,clE,efE,ceS,ceE,csE,faE,nlE,ldE,lnE,exE,eV,sL,kI,List.map,getS]
 unfold EJ
 repeat first|refine ZA ?_|refine BP ?_|refine BQ ?_
 refine ag rfl ((Ho hE T.bt hl hll).mono fun y h2 ⟨k2,e2⟩=> ?_)
 cases hm:mM l with
 |false=>
  rw [hm] at e2
  have e2:y= .tup [.ae, .int .i64 3]:=e2
  subst e2
  repeat first|refine ZA ?_|refine BP ?_|refine BQ ?_
  exact ⟨rfl,k2⟩
 |true=>
  rw [hm] at e2
  obtain ⟨o,e2,o2,_⟩:∃o,y= .tup [o, .int .i64 0]/\OS h2 1 o (dF l).length ((dF l).map ub)/\∀k,blk o k->h.n<=k:=e2
  subst e2
  repeat first|refine ZA ?_|refine BP ?_|refine BQ ?_
  refine ag rfl ((LK hE T.aaX T.bt.put T.bt.clone (pre:=[]) (h:=h2) (v:= .ae) ⟨rfl,rfl⟩ (by intro q;cases q) o2.rs (by simp) (hbl hm)).mono fun r h3 ⟨o3,e3,⟨k3,b3⟩,s3⟩=> ?_)
  subst e3
  rw [List.nil_append] at s3
  have bx3:=(hb.up k2).up k3
  have hd3:=(hd.up k2).up k3
  repeat first|refine ZA ?_|refine BP ?_|refine BQ ?_
  repeat first|refine ZI ?_|refine CB (ak rfl) ?_|refine CB (au bx3 rfl rfl) ?_|refine BV (ak rfl) ?_|refine BV (au bx3 rfl rfl) ?_|refine BP ?_|refine BQ ?_|refine CC ?_
  refine bF rfl ((Wq hE T.clip s3.rs).mono fun w h4 ⟨e4,r4,_⟩=> ?_)
  subst e4
  refine ⟨(by repeat first|exact aW|refine aZ rfl (au bx3 rfl rfl) ?_|refine aZ rfl (ak rfl) ?_|refine aZ rfl rfl ?_), ?_⟩
  refine bF rfl ((zq hE T.append hd3 (by omega) s r4).mono fun r h5 ⟨e5,o5,k5⟩=> ?_)
  subst e5
  refine ⟨aW, ?_⟩
  have bx5:=bx3.keep k5 (fun q=>hdg q.symm)
  obtain ⟨ec,hec⟩:∃ec,ec=(x.append s (cu (dF l))).1:=⟨_,rfl⟩
  rw [<-hec]
  obtain ⟨x2,hx2⟩:∃x2,x2=(x.append s (cu (dF l))).2:=⟨_,rfl⟩
  rw [<-hx2] at o5 ⊢
  have K5:Keep (fun k=>k=d\/k=g) h h5:=((k2.and k3).any).trans k5 (fun k _ q=> .inl q)
  by_cases c1:ec≠0
  ·repeat first|refine ZI ?_|refine BP ?_|refine BQ ?_|refine CC ?_
   rw [if_pos trivial,if_neg c1]
   exact ⟨rfl,o5,bx5,K5⟩
  ·have c1:ec=0:=by omega
   subst c1
   have kp:Keep (az g) h5 (h5.put g (.rw [.ptr d 0, .str s, .int .i64 (n+1)])):=Keep.put _ _ _ rfl
   repeat first|refine ZI ?_|refine CB (ak rfl) ?_|refine CB (au bx5 rfl rfl) ?_|refine BV (ak rfl) ?_|refine BV (au bx5 rfl rfl) ?_|refine BW (fQ bx5 rfl rfl ⟨rfl,rfl⟩ (Nat.succ_lt_succ (Nat.succ_lt_succ (Nat.zero_lt_succ _)))) ?_|refine BP ?_|refine BQ ?_|refine CC ?_
   rw [if_pos trivial,if_pos trivial]
   exact ⟨rfl,o5.keep kp (fun q=>hdg q),bx5.put,K5.trans kp (fun k _ q=> .inr q)⟩
end
end Am
end Go.Proofs.YtbnkdnlfdofepaaGreat
