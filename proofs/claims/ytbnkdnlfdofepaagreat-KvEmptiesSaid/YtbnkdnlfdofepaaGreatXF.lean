/- Package kv: what a database is; open, lay, Put, Sync, Tables, Held. Package kv: Put, Sync, Tables, Held. Package kv: Range. Package kv: Get. -/
import Derived.Test.YtbnkdnlfdofepaaGreatXE
import Derived.Test.YtbnkdnlfdofepaaGreatXC
import Derived.Test.YtbnkdnlfdofepaaGreatML
import Derived.Test.YtbnkdnlfdofepaaGreatMJ
set_option linter.unusedVariables false
set_option linter.unusedSimpArgs false
namespace Go.Proofs.YtbnkdnlfdofepaaGreat
namespace Am
open Go.RowKit
set_option maxRecDepth 100000
def rQ:BF:=⟨25,[0,1,4,5,6,8,9,23],(.seq (.reg [mvS 2 (.mv (.const .bU)),mvS 3 (.mv (.const (.int .i64 0)))]) (.seq (.reg [ceS 11 0,ceS 12 1,clE 13 89 [eV 12],clE 14 116 [eV 11,eV 13],ceE 10 14,exE 15 0 10,exE 16 1 10,csE 4 15,ceE 7 16]) (.seq (.reg [ceS 18 4,clE 19 119 [eV 18],ceE 17 19,exE 20 0 17,exE 21 1 17,csE 5 20,csE 6 21]) (.seq (.seq (.reg [ceS 22 6,mvS 7 (.bin .neq .no (eV 22) (.const (.int .i64 0)))]) (.cond (sL 7) (.seq (.reg [mvS 2 (.mv (.const .bU)),mvS 3 (.mv (.const (.int .i64 14)))]) .ret) .skip)) (.seq (.reg [ceS 24 5,csE 2 24,mvS 3 (.mv (.const (.int .i64 0)))]) .ret))))),[.slot (sL 2), .slot (sL 3)]⟩
def wE:BF:=⟨47,[0,1,2,6,7,8,9,10,11,21,29,39],(.seq (.reg [mvS 3 (.mv (.const (.int .i64 0)))]) (.seq (.reg [ceS 12 1,clE 13 89 [eV 12],csE 4 13]) (.seq (.seq (.reg [ceS 14 0,nlE 15 14,faE 16 0 15,ldE 17 16,ceS 18 4,clE 19 50 [eV 17,eV 18],csE 5 19]) (.seq (.reg [ceS 20 5,mvS 9 (.bin .neq .no (eV 20) (.const (.int .i64 0)))]) (.cond (sL 9) (.seq (.reg [ceS 22 5,csE 3 22]) .ret) .skip))) (.seq (.reg [ceS 24 2,clE 25 125 [eV 24],ceE 23 25,exE 26 0 23,exE 27 1 23,csE 6 26,csE 7 27]) (.seq (.seq (.reg [ceS 28 7,mvS 10 (.bin .neq .no (eV 28) (.const (.int .i64 0)))]) (.cond (sL 10) (.seq (.reg [ceS 30 7,csE 3 30]) .ret) .skip)) (.seq (.seq (.reg [ceS 31 0,nlE 32 31,faE 33 0 32,ldE 34 33,ceS 35 4,ceS 36 6,clE 37 51 [eV 34,eV 35,eV 36],csE 8 37]) (.seq (.reg [ceS 38 8,mvS 11 (.bin .neq .no (eV 38) (.const (.int .i64 0)))]) (.cond (sL 11) (.seq (.reg [ceS 40 8,csE 3 40]) .ret) .skip))) (.seq (.reg [ceS 41 0,nlE 42 41,faE 43 0 42,ldE 44 43,ceS 45 4,clE 46 108 [eV 44,eV 45],csE 3 46]) .ret))))))),[.slot (sL 3)]⟩
def wF:BF:=⟨42,[0,1,4,5,6,14,22,27,34],(.seq (.reg [mvS 2 (.mv (.const (.int .i64 0)))]) (.seq (.seq (.reg [ceS 7 1,lnE 8 7,mvE 9 (.bin .lss .no (eV 8) (.const (.int .i64 1))),ceE 10 9, .mk (some ((eV 10),false)) (.env 11) (.mov (.mv (sL 1))), .mk (some ((eV 10),false)) (.env 12) (.mov (.ah (eV 11))), .mk (some ((eV 10),false)) (.env 13) (.mov (.bin .gtr .no (eV 12) (.const (.int .i64 8191)))),mvS 5 (.pick (eV 10) (.const (.bool true)) (eV 13))]) (.cond (sL 5) (.seq (.reg [mvS 2 (.mv (.const (.int .i64 1)))]) .ret) .skip)) (.seq (.seq (.reg [ceS 15 0,nlE 16 15,faE 17 6 16,ldE 18 17,ceS 19 1,clE 20 62 [eV 18,eV 19],csE 3 20]) (.seq (.reg [ceS 21 3,mvS 6 (.bin .neq .no (eV 21) (.const (.int .i64 0)))]) (.cond (sL 6) (.seq (.reg [ceS 23 3,csE 2 23]) .ret) .skip))) (.seq (.seq (.reg [ceS 24 0,nlE 25 24,faE 26 1 25,mvS 7 (.ld1 (eV 26))]) (.cond (sL 7) (.seq (.reg [ceS 28 0,nlE 29 28,faE 30 6 29,ldE 31 30,clE 32 63 [eV 31],csE 4 32]) (.seq (.reg [ceS 33 4,mvS 8 (.bin .neq .no (eV 33) (.const (.int .i64 0)))]) (.cond (sL 8) (.seq (.reg [ceS 35 4,csE 2 35]) .ret) .skip))) .skip)) (.seq (.reg [ceS 36 0,nlE 37 36,faE 38 7 37,ldE 39 38,ceS 40 1,clE 41 64 [eV 39,eV 40]]) (.seq (.reg [mvS 2 (.mv (.const (.int .i64 0)))]) .ret)))))),[.slot (sL 2)]⟩
def wG:BF:=⟨8,[0,2],(.seq (.reg [mvS 1 (.mv (.const (.int .i64 0)))]) (.seq (.reg [ceS 3 0,nlE 4 3,faE 5 6 4,ldE 6 5,clE 7 63 [eV 6],csE 1 7]) .ret)),[.slot (sL 1)]⟩
def mi:BF:=⟨8,[0,2],(.seq (.reg [mvS 1 (.mv (.const (.int .i64 0)))]) (.seq (.reg [ceS 3 0,nlE 4 3,faE 5 5 4,ldE 6 5,lnE 7 6,csE 1 7]) .ret)),[.slot (sL 1)]⟩
def rU:BF:=⟨8,[0,2],(.seq (.reg [mvS 1 (.mv (.const (.int .i64 0)))]) (.seq (.reg [ceS 3 0,nlE 4 3,faE 5 7 4,ldE 6 5,clE 7 78 [eV 6],csE 1 7]) .ret)),[.slot (sL 1)]⟩
structure KS where
 x:MD
 ns:List Nat
 w:Nat
 nx:Nat
 tabs:List (List EM)
 nm:List UInt8
 n:Nat
 held:List EM
def tnm (n:Nat):List UInt8:=116::uI n
def wnm (n:Nat):List UInt8:=119::uI n
def niv (n:Nat):AV:= .int .i64 (n:Int)
def ints (ns:List Nat):List Int:=ns.map Int.ofNat
theorem Fa (ns:List Nat):(ints ns).map iv=ns.map niv:=by unfold ints;rw [List.map_map];rfl
structure Tabs (h:Hp MD) (vt:AV) (tabs:List (List EM)) (R:Nat->Prop):Prop where
 out:∃cells,RS h 1 vt tabs.length cells/\(∀k,blk vt k->R k)/\∀(i:Nat) l,tabs[i]?=some l->∃gt,cells[i]?=some (.ptr gt 0)/\R gt/\iG h gt l R
theorem iG.lt {h:Hp MD} {g:Nat} {l:List EM} {F:Nat->Prop} (a:iG h g l F):iG h g l (fun k=>F k/\k < h.n):=by
 obtain ⟨v,b,e⟩:=a.out
 exact ⟨v,b,e.lt⟩
theorem iG.on {h:Hp MD} {g:Nat} {l:List EM} {F G:Nat->Prop} (a:iG h g l F) (hs:∀k,F k->G k):iG h g l G:=by
 obtain ⟨v,b,e⟩:=a.out
 exact ⟨v,b,e.on hs⟩
theorem Tabs.keep {S R:Nat->Prop} {h h':Hp MD} {vt:AV} {tabs:List (List EM)} (a:Tabs h vt tabs R) (k:Keep S h h') (hs:∀k,R k->¬S k):Tabs h' vt tabs R:=by
 obtain ⟨cells,h1,h2,h3⟩:=a.out
 refine ⟨cells,h1.keep k (fun j hj=>hs j (h2 j hj)),h2,fun i l hi=> ?_⟩
 obtain ⟨gt,g1,g2,g3⟩:=h3 i l hi
 exact ⟨gt,g1,g2,g3.keep k (hs gt g2) hs⟩
theorem Tabs.up {R:Nat->Prop} {h h':Hp MD} {vt:AV} {tabs:List (List EM)} (a:Tabs h vt tabs R) (k:Keep NoB h h'):Tabs h' vt tabs R:=a.keep k (fun _ _ q=>q)
theorem Tabs.on {R R':Nat->Prop} {h:Hp MD} {vt:AV} {tabs:List (List EM)} (a:Tabs h vt tabs R) (hs:∀k,R k->R' k):Tabs h vt tabs R':=by
 obtain ⟨cells,h1,h2,h3⟩:=a.out
 refine ⟨cells,h1,fun k q=>hs k (h2 k q),fun i l hi=> ?_⟩
 obtain ⟨gt,g1,g2,g3⟩:=h3 i l hi
 exact ⟨gt,g1,hs gt g2,g3.on hs⟩
structure DbR (h:Hp MD) (db gd gl gm:Nat) (vm vt vn:AV) (Fm R:Nat->Prop) (each:Bool) (K:KS):Prop where
 bx:Bx h db [.ptr gd 0, .bool each,vn,niv K.w,niv K.nx,vt, .ptr gl 0, .ptr gm 0]
 dk:Ob h gd K.x
 log:Bx h gl [.ptr gd 0, .str K.nm,niv K.n]
 mem:pq h gm vm K.held Fm
 ns:RS h 1 vn K.ns.length (K.ns.map niv)
 tabs:Tabs h vt K.tabs R
 rns:∀k,blk vn k->R k
 ro:∀k,R k->k < h.n/\k≠db/\k≠gd/\k≠gl/\k≠gm/\¬blk vm k
 fm:∀k,Fm k->k≠db/\k≠gd/\k≠gl
 ap:db≠gd/\db≠gl/\db≠gm/\¬blk vm db/\gd≠gl/\gd≠gm/\¬blk vm gd/\gl≠gm/\¬blk vm gl
def DbW (db gd gl gm:Nat) (vm:AV):Nat->Prop:=fun k=>k=db\/k=gd\/k=gl\/k=gm\/blk vm k
structure DbH (h:Hp MD) (db gd:Nat) (each:Bool) (K:KS) (W F:Nat->Prop):Prop where
 out:∃gl gm vm vt vn Fm R,DbR h db gd gl gm vm vt vn Fm R each K/\(∀k,W k↔DbW db gd gl gm vm k)/\(∀k,R k->F k)/\∀k,Fm k->F k
theorem DbR.lt {h:Hp MD} {db gd gl gm:Nat} {vm vt vn:AV} {Fm R:Nat->Prop} {each:Bool} {K:KS} (a:DbR h db gd gl gm vm vt vn Fm R each K):∀k,DbW db gd gl gm vm k->k < h.n:=by
 rintro k (rfl|rfl|rfl|rfl|hk)
 ·exact a.bx.lt
 ·exact a.dk.lt
 ·exact a.log.lt
 ·exact a.mem.lt.1
 ·exact (a.mem.lt.2 k hk).1
theorem DbR.up {h h':Hp MD} {db gd gl gm:Nat} {vm vt vn:AV} {Fm R:Nat->Prop} {each:Bool} {K:KS} (a:DbR h db gd gl gm vm vt vn Fm R each K) (k:Keep NoB h h'):DbR h' db gd gl gm vm vt vn Fm R each K:=
 ⟨a.bx.up k,a.dk.up k,a.log.up k,a.mem.up k,a.ns.up k,a.tabs.up k,a.rns,fun j q=>⟨Nat.lt_of_lt_of_le (a.ro j q).1 k.n,(a.ro j q).2⟩,a.fm,a.ap⟩
theorem DbH.lt {h:Hp MD} {db gd:Nat} {each:Bool} {K:KS} {W F:Nat->Prop} (a:DbH h db gd each K W F):∀k,W k->k < h.n:=by
 obtain ⟨gl,gm,vm,vt,vn,Fm,R,r,hw,hr,hf⟩:=a.out
 exact fun k hk=>r.lt k ((hw k).1 hk)
theorem DbH.up {h h':Hp MD} {db gd:Nat} {each:Bool} {K:KS} {W F:Nat->Prop} (a:DbH h db gd each K W F) (k:Keep NoB h h'):DbH h' db gd each K W F:=by
 obtain ⟨gl,gm,vm,vt,vn,Fm,R,r,hw,hr,hf⟩:=a.out
 exact ⟨gl,gm,vm,vt,vn,Fm,R,r.up k,hw,hr,hf⟩
theorem DbH.on {h:Hp MD} {db gd:Nat} {each:Bool} {K:KS} {W F G:Nat->Prop} (a:DbH h db gd each K W F) (hs:∀k,F k->G k):DbH h db gd each K W G:=by
 obtain ⟨gl,gm,vm,vt,vn,Fm,R,r,hw,hr,hf⟩:=a.out
 exact ⟨gl,gm,vm,vt,vn,Fm,R,r,hw,fun k q=>hs k (hr k q),fun k q=>hs k (hf k q)⟩
theorem DbH.keep {S:Nat->Prop} {h h':Hp MD} {db gd:Nat} {each:Bool} {K:KS} {W F:Nat->Prop} (a:DbH h db gd each K W F) (k:Keep S h h') (h1:∀k,W k->¬S k) (h2:∀k,F k->k < h.n->¬S k):DbH h' db gd each K W F:=by
 obtain ⟨gl,gm,vm,vt,vn,Fm,R,r,hw,hr,hf⟩:=a.out
 have hS:∀k,R k->¬S k:=fun j q=>h2 j (hr j q) (r.ro j q).1
 exact ⟨gl,gm,vm,vt,vn,Fm,R,⟨r.bx.keep k (h1 _ ((hw _).2 (.inl rfl))),r.dk.keep k (h1 _ ((hw _).2 (.inr (.inl rfl)))),r.log.keep k (h1 _ ((hw _).2 (.inr (.inr (.inl rfl))))),r.mem.keep k (h1 _ ((hw _).2 (.inr (.inr (.inr (.inl rfl)))))) (fun j q=>h1 j ((hw j).2 (.inr (.inr (.inr (.inr q)))))) (fun j q=>h2 j (hf j q)),r.ns.keep k (fun j q=>hS j (r.rns j q)),r.tabs.keep k hS,r.rns,fun j q=>⟨Nat.lt_of_lt_of_le (r.ro j q).1 k.n,(r.ro j q).2⟩,r.fm,r.ap⟩,hw,hr,hf⟩
theorem DbR.disk {h h':Hp MD} {db gd gl gm:Nat} {vm vt vn:AV} {Fm R:Nat->Prop} {each:Bool} {K:KS} (a:DbR h db gd gl gm vm vt vn Fm R each K) (k:Keep (az gd) h h') {x:MD} (o:Ob h' gd x):DbR h' db gd gl gm vm vt vn Fm R each {K with x:=x}:=by
 obtain ⟨p1,p2,p3,p4,p5,p6,p7,p8,p9⟩:=a.ap
 exact ⟨a.bx.keep k p1,o,a.log.keep k (fun q=>p5 q.symm),a.mem.keep k (fun q=>p6 q.symm) (fun j q1 q2=>p7 (by have q2:j=gd:=q2;rw [<-q2];exact q1)) (fun j q1 _ q2=>(a.fm j q1).2.1 q2),a.ns.keep k (fun j q1 q2=>(a.ro j (a.rns j q1)).2.2.1 q2),a.tabs.keep k (fun j q1 q2=>(a.ro j q1).2.2.1 q2),a.rns,fun j q=>⟨Nat.lt_of_lt_of_le (a.ro j q).1 k.n,(a.ro j q).2⟩,a.fm,a.ap⟩
structure KwT (E:Nat->Option (Ent MD)):Prop where
 o:KoT E
 p:KpT E
 w:WaW E
 m:Zo E
 tn:E 89=some (.bc lG)
 wn:E 75=some (.bc sV)
 dg:E 123=some (.bc gU)
 rm:E 85=some (.nat (jg MD.remove))
 abl:E 73=some (.bc rQ)
 lay:E 80=some (.bc wE)
 acy:E 22=some (.bc wF)
 ksync:E 55=some (.bc wG)
 abm:E 52=some (.bc mi)
 abn:E 53=some (.bc rU)
section
variable {E:Nat->Option (Ent MD)}
theorem zU (hE:∀f e,E f=some e->e.plain) (T:KwT E) {h:Hp MD} {gd:Nat} {x:MD} (hd:Ob h gd x) (hx:x.fs.length<=1000000) {n:Nat} (hn:n < 100000000) {l:List EM} {f:MF} (hf:x.get (tnm n)=some f) (hb:f.b=dM l) (ok:jX l):
  WF (lim E) 73 [.ptr gd 0,niv n] h fun r h'=>Keep NoB h h'/\∃gt,r= .tup [.ptr gt 0, .int .i64 0]/\iG h' gt l (fun k=>h.n<=k)/\h.n<=gt:=by
 refine aC hE T.abl rfl ?_
 simp only [rQ,mvE,mvS,clE,efE,ceS,ceE,csE,faE,nlE,ldE,lnE,exE,eV,sL,kI,List.map,getS]
 repeat first|refine ZA ?_|refine BP ?_|refine BQ ?_
 refine ag rfl ((vV hE T.tn T.dg hn).mono fun r h1 ⟨e1,e2⟩=> ?_)
 subst e1 e2
 repeat first|refine ZA ?_|refine BP ?_|refine BQ ?_
 refine ag rfl ((Ju hE T.m.CJ hd (by omega) hf).mono fun r h2 ⟨bv,e2,k2,r2,_⟩=> ?_)
 subst e2
 rw [hb] at r2
 repeat first|refine ZA ?_|refine BP ?_|refine BQ ?_
 refine ag rfl ((topen_ok hE T.o r2 ok).mono fun r h3 ⟨k3,e3,m3⟩=> ?_)
 subst e3
 repeat first|refine ZA ?_|refine BP ?_|refine BQ ?_
 have:=k2.n
 exact ⟨k2.and k3,_,rfl,m3.on (fun k q=>by omega),by omega⟩
noncomputable def qx (x:MD) (n:Nat) (l:List EM):Int×MD:=
 if (x.create (tnm n)).1≠0 then x.create (tnm n) else
 if ((x.create (tnm n)).2.append (tnm n) (dM l)).1≠0 then (x.create (tnm n)).2.append (tnm n) (dM l) else
 ((x.create (tnm n)).2.append (tnm n) (dM l)).2.sync (tnm n)
theorem TJ (hE:∀f e,E f=some e->e.plain) (T:KwT E) {h:Hp MD} {db gd gl gm:Nat} {vm vt vn v:AV} {Fm R G:Nat->Prop} {each:Bool} {K:KS} (D:DbR h db gd gl gm vm vt vn Fm R each K) (hx:K.x.fs.length<=900000) {n:Nat} (hn:n < 100000000) {l:List EM} (en:aN h v l G) (hG:∀k,G k->k≠gd) (ok:jX l):
  WF (lim E) 80 [.ptr db 0,niv n,v] h fun r h'=>r= .int .i64 (qx K.x n l).1/\DbR h' db gd gl gm vm vt vn Fm R each {K with x:=(qx K.x n l).2}/\Keep (az gd) h h':=by
 refine aC hE T.lay rfl ?_
 simp only [wE,mvE,mvS,clE,efE,ceS,ceE,csE,faE,nlE,ldE,lnE,exE,eV,sL,kI,List.map,getS]
 have hmx:(maxLen:Nat)=9223372036854775807:=rfl
 obtain ⟨p1,_⟩:=D.ap
 unfold qx
 repeat first|refine ZA ?_|refine BP ?_|refine BQ ?_
 refine ag rfl ((vV hE T.tn T.dg hn).mono fun r h1 ⟨e1,e2⟩=> ?_)
 subst e1 e2
 have c1:=jJ K.x (tnm n)
 rw [show 116::uI n=tnm n from rfl]
 repeat first|refine ZA ?_|refine BV (ak rfl) ?_|refine BV (au D.bx rfl rfl) ?_|refine BP ?_|refine BQ ?_
 refine ag rfl ((nD hE T.m.create D.dk (by omega) (tnm n)).mono fun r h2 ⟨e2,o2,k2⟩=> ?_)
 subst e2
 have D2:=D.disk k2 o2
 obtain ⟨ec,hec⟩:∃ec,ec=(K.x.create (tnm n)).1:=⟨_,rfl⟩
 rw [<-hec]
 by_cases q1:ec≠0
 ·repeat first|refine ZA ?_|refine BP ?_|refine BQ ?_
  rw [if_pos q1]
  exact ⟨Eq.trans (b:=AV.int .i64 ec) rfl (by rw [hec]),D2,k2⟩
 have q1:ec=0:=by omega
 subst q1
 rw [if_neg (by omega)]
 have en2:=en.keep k2 (fun k q1 q2=>hG k q1 q2)
 repeat first|refine ZA ?_|refine BP ?_|refine BQ ?_
 refine ag rfl ((Di hE T.o.TA en2 ok).mono fun r h3 ⟨e3,e4⟩=> ?_)
 subst e3 e4
 have kp:Keep NoB h2 (h2.push (.rw ((dM l).map ub))):=Keep.push _ _ _
 have rb:RS (h2.push (.rw ((dM l).map ub))) 1 (.slice 1 h2.n 0 (dM l).length none) (dM l).length ((dM l).map ub):=bH (by simp)
 have D3:=D2.up kp
 have c2:=oH (K.x.create (tnm n)).2 (tnm n) (dM l)
 repeat first|refine ZA ?_|refine BV (ak rfl) ?_|refine BV (au D3.bx rfl rfl) ?_|refine BP ?_|refine BQ ?_
 refine ag rfl ((zq hE T.m.append D3.dk (by show (K.x.create (tnm n)).2.fs.length<=_;omega) (tnm n) rb).mono fun r h5 ⟨e5,o5,k5⟩=> ?_)
 subst e5
 have D5:=D3.disk k5 o5
 have K5:Keep (az gd) h1 h5:=(k2.trans kp (fun _ _ q=>q.elim)).trans k5 (fun _ _ q=>q)
 obtain ⟨ec,hec⟩:∃ec,ec=((K.x.create (tnm n)).2.append (tnm n) (dM l)).1:=⟨_,rfl⟩
 rw [<-hec]
 by_cases q2:ec≠0
 ·repeat first|refine ZA ?_|refine BP ?_|refine BQ ?_
  rw [if_pos q2]
  exact ⟨Eq.trans (b:=AV.int .i64 ec) rfl (by rw [hec]),D5,K5⟩
 have q2:ec=0:=by omega
 subst q2
 rw [if_neg (by omega)]
 repeat first|refine ZA ?_|refine BV (ak rfl) ?_|refine BV (au D5.bx rfl rfl) ?_|refine BP ?_|refine BQ ?_
 refine ag rfl ((nD hE T.m.sync D5.dk (by show ((K.x.create (tnm n)).2.append (tnm n) (dM l)).2.fs.length<=_;omega) (tnm n)).mono fun r h6 ⟨e6,o6,k6⟩=> ?_)
 subst e6
 repeat first|refine ZA ?_|refine BP ?_|refine BQ ?_
 exact ⟨rfl,D5.disk k6 o6,K5.trans k6 (fun _ _ q=>q)⟩
end
structure Did (h h':Hp MD) (db gd:Nat) (each:Bool) (K':KS) (W F:Nat->Prop):Prop where
 out:∃W',DbH h' db gd each K' W' (fun k=>F k\/h.n<=k)/\Keep W h h'/\∀k,W' k->W k\/h.n<=k
noncomputable def JS (each:Bool) (K:KS) (l:List EM):Int×KS:=
 if l.length < 1\/8191 < l.length then (1,K) else
 if mM l=false then (3,K) else
 if (K.x.append K.nm (cu (dF l))).1≠0 then ((K.x.append K.nm (cu (dF l))).1,{K with x:=(K.x.append K.nm (cu (dF l))).2}) else
 if each=true/\((K.x.append K.nm (cu (dF l))).2.sync K.nm).1≠0 then (((K.x.append K.nm (cu (dF l))).2.sync K.nm).1,{K with x:=((K.x.append K.nm (cu (dF l))).2.sync K.nm).2,n:=K.n+1}) else
 (0,{K with x:=if each then ((K.x.append K.nm (cu (dF l))).2.sync K.nm).2 else (K.x.append K.nm (cu (dF l))).2,n:=K.n+1,held:=dB K.held l})
section
variable {E:Nat->Option (Ent MD)}
theorem Io (hE:∀f e,E f=some e->e.plain) (T:KwT E) {h:Hp MD} {db gd:Nat} {each:Bool} {K:KS} {W F:Nat->Prop} (D:DbH h db gd each K W F):WF (lim E) 52 [.ptr db 0] h fun r h'=>h'=h/\r= .int .i64 K.tabs.length:=by
 obtain ⟨gl,gm,vm,vt,vn,Fm,R,D,_⟩:=D.out
 obtain ⟨cells,h1,_⟩:=D.tabs.out
 refine aC hE T.abm rfl ?_
 simp only [mi,mvE,mvS,clE,efE,ceS,ceE,csE,faE,nlE,ldE,lnE,exE,eV,sL,kI,List.map,getS]
 repeat first|refine ZA ?_|refine BV (ak rfl) ?_|refine BV (au D.bx rfl rfl) ?_|refine BV (h1.ah (by rfl)) ?_|refine BP ?_|refine BQ ?_
 exact ⟨rfl,rfl⟩
theorem Ip (hE:∀f e,E f=some e->e.plain) (T:KwT E) {h:Hp MD} {db gd:Nat} {each:Bool} {K:KS} {W F:Nat->Prop} (D:DbH h db gd each K W F):WF (lim E) 53 [.ptr db 0] h fun r h'=>h'=h/\r= .int .i64 K.held.length:=by
 obtain ⟨gl,gm,vm,vt,vn,Fm,R,D,_⟩:=D.out
 refine aC hE T.abn rfl ?_
 simp only [rU,mvE,mvS,clE,efE,ceS,ceE,csE,faE,nlE,ldE,lnE,exE,eV,sL,kI,List.map,getS]
 repeat first|refine ZA ?_|refine BV (ak rfl) ?_|refine BV (au D.bx rfl rfl) ?_|refine BP ?_|refine BQ ?_
 refine ag rfl ((Dj hE T.p.toKmT D.mem.OH).mono fun r h1 ⟨e1,e2⟩=> ?_)
 subst e1 e2
 repeat first|refine ZA ?_|refine BP ?_|refine BQ ?_
 exact ⟨rfl,rfl⟩
theorem DbR.abo {h h':Hp MD} {db gd gl gm:Nat} {vm vt vn:AV} {Fm R:Nat->Prop} {each:Bool} {K:KS} (a:DbR h db gd gl gm vm vt vn Fm R each K) (k:Keep (fun k=>k=gd\/k=gl) h h') {x:MD} {n:Nat} (o:Ob h' gd x) (b:Bx h' gl [.ptr gd 0, .str K.nm,niv n]):DbR h' db gd gl gm vm vt vn Fm R each {K with x:=x,n:=n}:=by
 obtain ⟨p1,p2,p3,p4,p5,p6,p7,p8,p9⟩:=a.ap
 exact ⟨a.bx.keep k (fun q=>q.elim p1 p2),o,b,a.mem.keep k (fun q=>q.elim (fun q=>p6 q.symm) (fun q=>p8 q.symm)) (fun j q1 q2=>q2.elim (fun q2=>p7 (by rw [<-q2];exact q1)) (fun q2=>p9 (by rw [<-q2];exact q1))) (fun j q1 _ q2=>q2.elim (a.fm j q1).2.1 (a.fm j q1).2.2),a.ns.keep k (fun j q1 q2=>q2.elim (a.ro j (a.rns j q1)).2.2.1 (a.ro j (a.rns j q1)).2.2.2.1),a.tabs.keep k (fun j q1 q2=>q2.elim (a.ro j q1).2.2.1 (a.ro j q1).2.2.2.1),a.rns,fun j q=>⟨Nat.lt_of_lt_of_le (a.ro j q).1 k.n,(a.ro j q).2⟩,a.fm,a.ap⟩
set_option maxHeartbeats 4000000 in
theorem MP (hE:∀f e,E f=some e->e.plain) (T:KwT E) {h:Hp MD} {db gd:Nat} {each:Bool} {K:KS} {W F G:Nat->Prop} {v:AV} {l:List EM} (D:DbH h db gd each K W F) (hx:K.x.fs.length<=900000) (en:aN h v l G) (hG:∀k,G k->¬W k) (hl:l.length<=100000) (hz:∀e∈l,szE e) (hn:K.n<=900000) (hh:kU K.held) (hhl:K.held.length<=800000) (hbl:mM l=true->(dF l).length<=1048576):
  WF (lim E) 22 [.ptr db 0,v] h fun r h'=>r= .int .i64 (JS each K l).1/\Did h h' db gd each (JS each K l).2 W F:=by
 obtain ⟨gl,gm,vm,vt,vn,Fm,R,D,hw,hrr,hff⟩:=D.out
 have DW:∀{h'} {K'},DbR h' db gd gl gm vm vt vn Fm R each K'->Keep (fun k=>k=gd\/k=gl) h h'->Did h h' db gd each K' W F:=fun {h' K'} d k=>⟨W,⟨gl,gm,vm,vt,vn,Fm,R,d,hw,fun k q=> .inl (hrr k q),fun k q=> .inl (hff k q)⟩,k.mono (fun g _ q=>(hw g).2 (.inr (q.elim .inl (fun q=> .inr (.inl q))))),fun k q=> .inl q⟩
 refine aC hE T.acy rfl ?_
 simp only [wF,mvE,mvS,clE,efE,ceS,ceE,csE,faE,nlE,ldE,lnE,exE,eV,sL,kI,List.map,getS]
 obtain ⟨tri,hr,htl,hq,_⟩:=en.out
 unfold JS
 by_cases c1:l.length < 1
 ·repeat first|refine ZA ?_|refine BV (hr.ah (by rfl)) ?_|refine BP ?_|refine BQ ?_
  rw [if_pos (.inl c1)]
  exact ⟨rfl,DW D (Keep.refl _ _)⟩
 by_cases c2:8191 < l.length
 ·repeat first|refine ZA ?_|refine BV (hr.ah (by rfl)) ?_|refine BP ?_|refine BQ ?_
  rw [if_pos (.inr c2)]
  exact ⟨rfl,DW D (Keep.refl _ _)⟩
 rw [if_neg (by omega)]
 repeat first|refine ZA ?_|refine BV (hr.ah (by rfl)) ?_|refine BV (ak rfl) ?_|refine BV (au D.bx rfl rfl) ?_|refine BP ?_|refine BQ ?_
 obtain ⟨p1,p2,p3,p4,p5,p6,p7,p8,p9⟩:=D.ap
 refine ag rfl ((Zu hE T.w D.log D.dk (by omega) p5 (by omega) (by omega) en.Wj (by omega) hbl).mono fun r h1 ad=> ?_)
 unfold EJ at ad
 cases hm:mM l with
 |false=>
  rw [hm] at ad
  obtain ⟨e1,k1⟩:r= .int .i64 3/\Keep NoB h h1:=ad
  subst e1
  repeat first|refine ZA ?_|refine BP ?_|refine BQ ?_
  rw [if_pos trivial]
  exact ⟨rfl,DW (D.up k1) k1.any⟩
 |true=>
  rw [hm] at ad
  obtain ⟨e1,o1,b1,k1⟩:r= .int .i64 (K.x.append K.nm (cu (dF l))).1/\Ob h1 gd (K.x.append K.nm (cu (dF l))).2/\Bx h1 gl [.ptr gd 0, .str K.nm, .int .i64 (if (K.x.append K.nm (cu (dF l))).1=0 then (K.n:Int)+1 else K.n)]/\Keep (fun k=>k=gd\/k=gl) h h1:=ad
  subst e1
  rw [if_neg (by decide)]
  have fa:=oH K.x K.nm (cu (dF l))
  obtain ⟨A,hA⟩:∃A,A=K.x.append K.nm (cu (dF l)):=⟨_,rfl⟩
  rw [<-hA] at o1 b1 fa ⊢
  clear hA
  obtain ⟨ec,x1⟩:=A
  simp only at o1 b1 fa ⊢
  by_cases q1:ec≠0
  ·rw [if_neg q1] at b1
   rw [if_pos q1]
   repeat first|refine ZA ?_|refine BP ?_|refine BQ ?_
   exact ⟨rfl,DW (D.abo (n:=K.n) k1 o1 b1) k1⟩
  have q1:ec=0:=by omega
  subst q1
  rw [if_pos rfl] at b1
  rw [if_neg (by omega)]
  have D1:DbR h1 db gd gl gm vm vt vn Fm R each {K with x:=x1,n:=K.n+1}:=D.abo (n:=K.n+1) k1 o1 b1
  have fin:∀{h2:Hp MD} {x2:MD},DbR h2 db gd gl gm vm vt vn Fm R each {K with x:=x2,n:=K.n+1}->Keep (fun k=>k=gd\/k=gl) h h2->WF (lim E) 64 [.ptr gm 0,v] h2 fun _ h'=>Did h h' db gd each {K with x:=x2,n:=K.n+1,held:=dB K.held l} W F:=fun {h2 x2} D2 k2=>by
   have en2:=en.lt.keep k2 (fun k q1 q2=>hG k q1.1 ((hw k).2 (.inr (q2.elim .inl (fun q=> .inr (.inl q))))))
   refine (MO hE T.p D2.mem hh en2 (fun k q=>⟨fun e=>hG k q.1 ((hw k).2 (.inr (.inr (.inr (.inl e))))),fun e=>hG k q.1 ((hw k).2 (.inr (.inr (.inr (.inr e)))))⟩) hz (show K.held.length+l.length<=1000000 by omega)).mono fun _ h3 ⟨v',m3,k3,b3⟩=> ?_
   have n2:=k2.n
   have ltv:=D2.mem.lt
   have nv:∀k,k < h2.n->¬blk vm k->¬blk v' k:=fun k z1 z2 z3=>by
    rcases b3 k z3 with z|z
    ·exact z2 z
    ·omega
   have sdb:¬(fun k=>k=gm\/blk vm k) db:=fun q=>q.elim p3 p4
   have sgd:¬(fun k=>k=gm\/blk vm k) gd:=fun q=>q.elim p6 p7
   have sgl:¬(fun k=>k=gm\/blk vm k) gl:=fun q=>q.elim p8 p9
   have ldb:=D2.bx.lt
   have lgd:=D2.dk.lt
   have lgl:=D2.log.lt
   have sR:∀k,R k->¬(fun k=>k=gm\/blk vm k) k:=fun k z q=>q.elim (D2.ro k z).2.2.2.2.1 (D2.ro k z).2.2.2.2.2
   refine ⟨DbW db gd gl gm v',⟨gl,gm,v',vt,vn,_,R,⟨D2.bx.keep k3 sdb,D2.dk.keep k3 sgd,D2.log.keep k3 sgl,m3,D2.ns.keep k3 (fun k z=>sR k (D2.rns k z)),D2.tabs.keep k3 sR,D2.rns,fun k z=> ?_,fun k z=> ?_, ?_⟩,fun k=>Iff.rfl,fun k q=> .inl (hrr k q),fun k q=>q.elim (fun q=> .inl (hff k q)) (fun q=> .inr (by omega))⟩, ?_,fun k z=> ?_⟩
   ·obtain ⟨z1,z2,z3,z4,z5,z6⟩:=D2.ro k z
    exact ⟨Nat.lt_of_lt_of_le z1 k3.n,z2,z3,z4,z5,nv k z1 z6⟩
   ·rcases z with z|z
    ·exact D2.fm k z
    ·exact ⟨by omega,by omega,by omega⟩
   ·exact ⟨p1,p2,p3,nv _ ldb p4,p5,p6,nv _ lgd p7,p8,nv _ lgl p9⟩
   ·exact (k2.mono (T:=W) (fun g _ q=>(hw g).2 (.inr (q.elim .inl (fun q=> .inr (.inl q)))))).trans k3 (fun g _ q=>(hw g).2 (.inr (.inr (.inr q))))
   ·rcases z with z|z|z|z|z
    ·exact .inl ((hw k).2 (.inl z))
    ·exact .inl ((hw k).2 (.inr (.inl z)))
    ·exact .inl ((hw k).2 (.inr (.inr (.inl z))))
    ·exact .inl ((hw k).2 (.inr (.inr (.inr (.inl z)))))
    ·rcases b3 k z with z|z
     ·exact .inl ((hw k).2 (.inr (.inr (.inr (.inr z)))))
     ·exact .inr (Nat.le_trans n2 z)
  cases each with
  |false=>
   rw [if_neg (by rintro ⟨q,_⟩;cases q)]
   repeat first|refine ZA ?_|refine BV (ak rfl) ?_|refine BV (au D1.bx rfl rfl) ?_|refine BP ?_|refine BQ ?_
   refine ag rfl ((fin D1 k1).mono fun _ h3 d=> ?_)
   repeat first|refine ZA ?_|refine BP ?_|refine BQ ?_
   exact ⟨rfl,d⟩
  |true=>
   repeat first|refine ZA ?_|refine BV (ak rfl) ?_|refine BV (au D1.bx rfl rfl) ?_|refine BP ?_|refine BQ ?_
   refine ag rfl ((RQ hE T.w D1.log D1.dk (by show x1.fs.length<=_;omega)).mono fun r h2 ⟨e2,o2,k2⟩=> ?_)
   subst e2
   have k12:Keep (fun k=>k=gd\/k=gl) h h2:=k1.trans k2 (fun k _ q=> .inl q)
   have D2:=D1.disk k2 o2
   obtain ⟨A,hA⟩:∃A,A=x1.sync K.nm:=⟨_,rfl⟩
   simp only at D2
   rw [<-hA] at D2
   show WR (lim E) _ ((_,AV.int .i64 (x1.sync K.nm).1)::_) _ _ _
   rw [<-hA]
   clear hA
   obtain ⟨ec,x2⟩:=A
   simp only at D2 ⊢
   by_cases q2:ec≠0
   ·rw [if_pos ⟨trivial,q2⟩]
    repeat first|refine ZA ?_|refine BP ?_|refine BQ ?_
    exact ⟨rfl,DW D2 k12⟩
   have q2:ec=0:=by omega
   subst q2
   rw [if_neg (by rintro ⟨_,q⟩;exact q rfl)]
   repeat first|refine ZA ?_|refine BV (ak rfl) ?_|refine BV (au D2.bx rfl rfl) ?_|refine BP ?_|refine BQ ?_
   refine ag rfl ((fin D2 k12).mono fun _ h3 d=> ?_)
   repeat first|refine ZA ?_|refine BP ?_|refine BQ ?_
   exact ⟨rfl,d⟩
end
def pz:BF:=⟨51,[0,1,2,6,7,9,10,12,22,23,24,25,34,35,36,37],(.seq (.reg [mvS 3 (.mv (.const .ae))]) (.seq (.reg [ceS 13 0,nlE 14 13,faE 15 7 14,ldE 16 15,mvE 17 (.yM 90 [eV 16]),efE 18 (.aF 1 1 [.qJ] [(0,1,(eV 17))]),csE 4 18]) (.seq (.seq (.reg [ceS 19 0,nlE 20 19,faE 21 5 20,mvS 8 (.ld1 (eV 21)),mvS 9 (.ah (sL 8)),mvS 10 (.mv (.const (.int .i64 0)))]) (.block 0 (.loop (.seq (.reg [mvS 11 (.bin .lss .no (sL 10) (sL 9))]) (.seq (.cond (sL 11) .skip (.exit 0)) (.seq (.block 1 (.seq (.reg [mvE 26 (.aP 1 (sL 8) (sL 10)),ldE 27 26,csE 5 27]) (.reg [ceS 28 4,ceS 29 5,mvE 30 (.yM 91 [eV 29]),efE 31 (.aF 1 1 [.qJ] [(0,1,(eV 30))]),efE 32 (.append 1 8 (eV 28) (eV 31)),csE 4 32]))) (.reg [mvE 33 (.bin .add .no (sL 10) (.const (.int .i64 1))),csE 10 33]))))))) (.seq (.reg [mvS 6 (.mv (.const .ae))]) (.seq (.seq (.reg [mvS 12 (.mv (sL 4)),mvS 13 (.ah (sL 12)),mvS 14 (.mv (.const (.int .i64 0)))]) (.block 2 (.loop (.seq (.reg [mvS 15 (.bin .lss .no (sL 14) (sL 13))]) (.seq (.cond (sL 15) .skip (.exit 2)) (.seq (.block 3 (.seq (.reg [mvE 38 (.aP 1 (sL 12) (sL 14)),ldE 39 38,csE 7 39]) (.reg [ceS 40 6,ceS 41 7,ceS 42 1,ceS 43 2, .mk none (.env 44) (.qO (eV 41) [eV 42,eV 43]),efE 45 (.aF 1 1 [.ae] [(0,1,(eV 44))]),efE 46 (.append 1 24 (eV 40) (eV 45)),csE 6 46]))) (.reg [mvE 47 (.bin .add .no (sL 14) (.const (.int .i64 1))),csE 14 47]))))))) (.seq (.reg [ceS 48 6,clE 49 88 [eV 48],clE 50 87 [eV 49],csE 3 50]) .ret)))))),[.slot (sL 3)]⟩
structure Asks (h g:Hp MD) (fm ft:Nat) (av:AV) (ls:List (List EM)) (F:Nat->Prop):Prop where
 out:∃cells,OS g 1 av ls.length cells/\(∀k,blk av k->h.n<=k)/\∀(i:Nat) l,ls[i]?=some l->∃f g0,cells[i]?=some (.meth f [.ptr g0 0])/\(f=fm\/f=ft)/\iG h g0 l F
theorem Asks.next {h g:Hp MD} {fm ft:Nat} {av:AV} {ls:List (List EM)} {l:List EM} {F:Nat->Prop} (a:Asks h g fm ft av ls F) (hg:h.n<=g.n) {f g0:Nat} (hf:f=fm\/f=ft) (m:iG h g0 l F):
  ∃cells,OS (g.push (.rw [.meth f [.ptr g0 0]])) 1 av ls.length cells/\∀v' g',OS g' 1 v' (ls.length+1) (cells++[.meth f [.ptr g0 0]])->Keep (blk av) (g.push (.rw [.meth f [.ptr g0 0]])) g'->(∀k,blk v' k->blk av k\/(g.push (.rw [.meth f [.ptr g0 0]])).n<=k)->Asks h g' fm ft v' (ls++[l]) F:=by
 obtain ⟨cells,h1,h2,h3⟩:=a.out
 have hll:=h1.len
 refine ⟨cells,h1.up (Keep.push _ _ _),fun v' g' a1 a2 a3=>⟨cells++[.meth f [.ptr g0 0]],by rw [List.length_append];exact a1,fun k hk=> ?_,fun i x hi=> ?_⟩⟩
 ·rcases a3 k hk with hk|hk
  ·exact h2 k hk
  ·simp only [bJ] at hk;omega
 ·by_cases hj:i < ls.length
  ·rw [List.getElem?_append_left hj] at hi
   obtain ⟨f',g1,q1,q2⟩:=h3 i x hi
   exact ⟨f',g1,by rw [List.getElem?_append_left (by omega)];exact q1,q2⟩
  ·have h6:=(List.getElem?_eq_some_iff.1 hi).1
   rw [List.length_append,List.length_singleton] at h6
   obtain rfl:i=ls.length:=by omega
   rw [List.getElem?_append_right (Nat.le_refl _),Nat.sub_self] at hi
   simp at hi
   subst hi
   exact ⟨f,g0,by rw [List.getElem?_append_right (by omega),show ls.length - cells.length=0 by omega];rfl,hf,m⟩
structure KOK (K:KS):Prop where
 rows:∀l∈K.held::K.tabs,kU l
 nrm:∀l∈K.held::K.tabs,∀e∈l,vX e
 len:K.tabs.length<=1000
 join:(joinL (K.held::K.tabs)).length<=1000000
structure KwR (E:Nat->Option (Ent MD)):Prop extends KwT E where
 ZR:E 47=some (.bc pz)
theorem wH {l:List EM} (h:∀e∈l,vX e):l.map EM.own=l:=by
 induction l with
 |nil=>rfl
 |cons x l ih=>rw [List.map_cons,L9 (h x (List.mem_cons_self ..)),ih (fun e he=>h e (List.mem_cons_of_mem _ he))]
theorem yI {a b:List UInt8} {l:List EM} {e:EM} (h:e∈jl a b l):e∈l:=(List.mem_filter.1 h).1
theorem qy:∀{rs:List (List EM)} {e:EM},e∈joinL rs->∃r∈rs,∃x∈r,e=x.own
 |[],e,h=>by cases h
 |r::rs,e,h=>by
  rcases lW h with h|⟨x,hx,rfl⟩
  ·obtain ⟨r',h1,h2⟩:=qy h
   exact ⟨r',List.mem_cons_of_mem _ h1,h2⟩
  ·exact ⟨r,List.mem_cons_self ..,x,hx,rfl⟩
theorem Fb {e:EM} (h:szE e):szE e.own:=by
 refine ⟨h.1,h.2.1, ?_⟩
 show (if e.gone then [] else e.val).length<=4095
 split
 ·simp
 ·exact h.2.2
theorem OE.wk {X:Type} {h:Hp X} {v:AV} {l:List EM} {lo lo':Nat} {F F':Nat->Prop} (a:OE h v l lo F) (hl:lo'<=lo) (hF:∀k,F k->F' k):OE h v l lo' F':=by
 obtain ⟨tri,h1,h2,h3,h4,h5⟩:=a.out
 exact ⟨tri,h1,h2,h3,fun k q=>Nat.le_trans hl (h4 k q),fun q hq k hk=>⟨hF k (h5 q hq k hk).1,(h5 q hq k hk).2⟩⟩
theorem TK (a b:List UInt8) (l:List EM):(jl a b l).length<=l.length:=List.length_filter_le _ _
section
variable {E:Nat->Option (Ent MD)}
set_option maxHeartbeats 8000000 in
theorem OJ (hE:∀f e,E f=some e->e.plain) (T:KwR E) {h:Hp MD} {db gd:Nat} {each:Bool} {K:KS} {W F:Nat->Prop} (D:DbH h db gd each K W F) (ok:KOK K) {av bv:AV} {a b:List UInt8} (ha:RS h 1 av a.length (a.map ub)) (hb:RS h 1 bv b.length (b.map ub)):
  WF (lim E) 47 [.ptr db 0,av,bv] h fun r h'=>Keep NoB h h'/\OE h' r (aY (jl a b (joinL (K.held::K.tabs)))) h.n (fun k=>h.n<=k):=by
 obtain ⟨gl,gm,vm,vt,vn,Fm,R,D,_⟩:=D.out
 obtain ⟨tc,t1,t2,t3⟩:=D.tabs.out
 have mr:=D.mem.OH
 have hmx:(maxLen:Nat)=9223372036854775807:=rfl
 have hlen:=ok.len
 refine aC hE T.ZR rfl ?_
 simp only [pz,mvE,mvS,clE,efE,ceS,ceE,csE,faE,nlE,ldE,lnE,exE,eV,sL,kI,List.map,getS]
 have kp:Keep NoB h (h.push (.rw [.meth 90 [.ptr gm 0]])):=Keep.push _ _ _
 have as0:Asks h (h.push (.rw [.meth 90 [.ptr gm 0]])) 90 91 (.slice 1 h.n 0 1 (some 1)) [K.held] (fun k=>k < h.n):=
  ⟨[.meth 90 [.ptr gm 0]],vT,fun k q=>by have q:k=h.n:=q;omega,fun i l hi=>by
   cases i with
   |zero=>simp at hi;subst hi;exact ⟨_,gm,rfl, .inl rfl,mr.lt.on (fun k q=>q.2)⟩
   |succ i=>simp at hi⟩
 repeat first|refine ZA ?_|refine BV (ak rfl) ?_|refine BV (au D.bx rfl rfl) ?_|refine BW (dO (c:= .meth 90 [.ptr gm 0]) rfl rfl rfl) ?_|refine BP ?_|refine BQ ?_
 obtain ⟨h1,hh1⟩:∃h1:Hp MD,h1=h.push (.rw [.meth 90 [.ptr gm 0]]):=⟨_,rfl⟩
 refine aJ (h':=h1) (by rw [hh1];first|done|rfl) ?_
 rw [<-hh1] at kp as0
 have n1:h1.n=h.n+1:=by rw [hh1];rfl
 clear hh1
 have bx1:=D.bx.up kp
 have t11:=t1.up kp
 repeat first|refine ZA ?_|refine BV (au bx1 rfl rfl) ?_|refine BV (t11.ah (by rfl)) ?_|refine BP ?_|refine BQ ?_
 refine aQ (fun q t g=>∃(s4 s5 s6 s7 s11 s12 s13 s14 s15:AV) (j:Nat),j<=K.tabs.length/\q=K.tabs.length - j/\Keep NoB h g/\Asks h g 90 91 s4 (K.held::K.tabs.take j) (fun k=>k < h.n)/\t=[.ptr db 0,av,bv, .ae,s4,s5,s6,s7,vt, .int .i64 K.tabs.length, .int .i64 j,s11,s12,s13,s14,s15]) ?_ K.tabs.length _ _ ⟨_,_,_,_,_,_,_,_,_,0,by omega,by omega,kp,as0,rfl⟩
 clear as0 bx1 t11 kp n1
 rintro q t g ⟨s4,s5,s6,s7,s11,s12,s13,s14,s15,j,hj,hq,Kp,A,rfl⟩
 have gn:=Kp.n
 by_cases hlt:j < K.tabs.length
 ·obtain ⟨gt,g1,g2,g3⟩:=t3 j _ (List.getElem?_eq_getElem hlt)
  obtain ⟨ga,oa,pa,la⟩:=(t1.up Kp).at2 hlt
  have la:∀{e:En} {t:List AV} {x:Od},x.ev e t= .ptr ga oa->(Mv.ld1 x).ev e t g=some (.ptr gt 0):=fun hx=>(la (S:=NoB) (Keep.refl _ _) (fun _ _ q=>q) hx).trans g1
  obtain ⟨cells,c1,c2⟩:=A.next gn (f:=91) (.inr rfl) (g3.lt.on (fun k q=>q.2))
  rw [List.length_cons,List.length_take,Nat.min_eq_left hj] at c1 c2
  repeat first|refine ZA ?_|refine BV (pa rfl rfl) ?_|refine BV (la rfl) ?_|refine BW (dO (c:= .meth 91 [.ptr gt 0]) rfl rfl rfl) ?_|refine BP ?_|refine BQ ?_
  refine aA rfl rfl c1 Nat.zero_lt_one (bH (n:=1) rfl) (by omega) (by omega) fun v' h4 a1 a2 a3=> ?_
  have A2:=c2 v' h4 a1 a2 a3
  repeat first|refine ZA ?_|refine BP ?_|refine BQ ?_
  have al:∀k,blk s4 k->h.n<=k:=by obtain ⟨_,_,z,_⟩:=A.out;exact z
  refine aj (K.tabs.length - (j+1)) (by omega) ⟨v',_,_,_,_,_,_,_,_,j+1,by omega,rfl,(Kp.and (Keep.push _ _ _)).trans a2 (fun k z1 z2=>by have:=al k z2;omega), ?_,rfl⟩
  rw [take_snoc (List.getElem?_eq_getElem hlt),<-List.cons_append]
  exact A2
 ·obtain rfl:j=K.tabs.length:=by omega
  rw [List.take_length] at A
  generalize hL:K.held::K.tabs=L at*
  have hLl:L.length=K.tabs.length+1:=by rw [<-hL];rfl
  obtain ⟨ac,a1,a2,a3⟩:=A.out
  repeat first|refine ZA ?_|refine BV (a1.rs.ah (by rfl)) ?_|refine BP ?_|refine BQ ?_
  refine aQ (fun q t g2=>∃(rv s7 s15:AV) (j:Nat),j<=L.length/\q=L.length - j/\Keep NoB g g2/\OB g2 rv ((L.take j).map (jl a b)) g.n (fun k=>g.n<=k)/\t=[.ptr db 0,av,bv, .ae,s4,s5,rv,s7,vt, .int .i64 K.tabs.length, .int .i64 K.tabs.length, .bool false,s4, .int .i64 L.length, .int .i64 j,s15]) ?_ L.length _ _ ⟨.ae,_,_,0,by omega,by omega,Keep.refl _ _,OB.nil,rfl⟩
  rintro q t g2 ⟨rv,s7,s15,j,hj,hq,K2,B,rfl⟩
  have g2n:=K2.n
  by_cases hlt:j < L.length
  ·obtain ⟨f,g0,q1,q2,q3⟩:=a3 j _ (List.getElem?_eq_getElem hlt)
   obtain ⟨ga,oa,pa,la⟩:=(a1.up K2).rs.at2 hlt
   have la:∀{e:En} {t:List AV} {x:Od},x.ev e t= .ptr ga oa->(Mv.ld1 x).ev e t g2=some (.meth f [.ptr g0 0]):=fun hx=>(la (S:=NoB) (Keep.refl _ _) (fun _ _ q=>q) hx).trans q1
   have K3:=Kp.and K2
   have lm:L[j]∈L:=List.getElem_mem _
   have hw:WF (lim E) f [.ptr g0 0,av,bv] g2 fun r h'=>Keep NoB g2 h'/\OE h' r (jl a b L[j]) g2.n (fun k=>g2.n<=k):=by
    have e:(jl a b L[j]).map EM.own=jl a b L[j]:=wH fun e he=>ok.nrm _ (by rw [hL];exact lm) e (yI he)
    have hr:=ok.rows L[j] (by rw [hL];exact lm)
    rcases q2 with rfl|rfl
    ·refine (Dk hE T.p.toKmT (q3.up K3) hr (ha.up K3) (hb.up K3)).mono fun r h' z=> ?_
     rw [e] at z
     exact z
    ·refine (Dn hE T.p.toKtT (q3.up K3) hr (ha.up K3) (hb.up K3)).mono fun r h' z=> ?_
     rw [e] at z
     exact z
   repeat first|refine ZA ?_|refine BV (pa rfl rfl) ?_|refine BV (la rfl) ?_|refine BP ?_|refine BQ ?_
   refine yH rfl rfl (hw.mono fun r g3 ⟨k3,o3⟩=> ?_)
   have B3:=B.up k3
   have k3n:=k3.n
   obtain ⟨cells,c1,c2,c3⟩:=B3.next (o3.oM.on (fun k (z:_\/_)=>⟨by rcases z with z|z<;>omega,fun z2=>by have:=B.lt k z2;rcases z with z|z<;>omega⟩)) (by omega)
   rw [List.length_map,List.length_take,Nat.min_eq_left hj] at c1 c3
   repeat first|refine ZA ?_|refine BW (dO (c:=r) rfl o3.one.1 o3.one.2) ?_|refine BP ?_|refine BQ ?_
   refine aA rfl rfl c1 Nat.zero_lt_one c2 (by omega) (by omega) fun v' h4 z1 z2 z3=> ?_
   obtain ⟨B4,K4⟩:=c3 v' h4 z1 z2 z3
   repeat first|refine ZA ?_|refine BP ?_|refine BQ ?_
   refine aj (L.length - (j+1)) (by omega) ⟨v',_,_,j+1,by omega,rfl,(K2.and k3).trans K4 (fun k y1 y2=>by have:=B.lo k y2;omega), ?_,rfl⟩
   rw [take_snoc (List.getElem?_eq_getElem hlt),List.map_append]
   exact B4
  ·obtain rfl:j=L.length:=by omega
   rw [List.take_length] at B
   have hB:=B.Zr (G:=fun _=>True) (fun _ _ _=>trivial) (fun _ _=>trivial)
   have ris:∀r∈L,dI r:=fun r hr=>(ok.rows r (by rw [hL];exact hr)).ris
   have ej:joinL (L.map (jl a b))=jl a b (joinL L):=CW a b ris
   have hjl:=ok.join
   rw [hL] at hjl
   have hle:=TK a b (joinL L)
   have hsz:∀r∈L.map (jl a b),∀e∈r,szE e:=fun r hr e he=>by
    obtain ⟨r',hr',rfl⟩:=List.mem_map.1 hr
    exact (ok.rows r' (by rw [hL];exact hr')).sz e (yI he)
   repeat first|refine ZA ?_|refine BP ?_|refine BQ ?_
   refine ag rfl ((MM hE T.p.toKgT hB (fun r hr=>by obtain ⟨r',hr',rfl⟩:=List.mem_map.1 hr;exact rF (ris r' hr')) hsz (by rw [List.length_map];omega) (by rw [ej];omega)).mono fun w g3 ⟨k3,o3⟩=> ?_)
   rw [ej] at o3
   repeat first|refine ZA ?_|refine BP ?_|refine BQ ?_
   have hsz2:∀e∈jl a b (joinL L),szE e:=fun e he=>by
    obtain ⟨r,hr,x,hx,rfl⟩:=qy (yI he)
    exact Fb ((ok.rows r (by rw [hL];exact hr)).sz x hx)
   refine ag rfl ((MN hE T.p.toKgT o3.oM (by omega) hsz2).mono fun w2 g4 ⟨k4,o4⟩=> ?_)
   repeat first|refine ZA ?_|refine BP ?_|refine BQ ?_
   have e4:(aY (jl a b (joinL L))).map EM.own=aY (jl a b (joinL L)):=wH fun e he=>xu e (yI (List.mem_filter.1 he).1)
   rw [e4] at o4
   have n3:=k3.n
   exact ⟨((Kp.and K2).and k3).and k4,o4.wk (by omega) (fun k (z:_<=k)=>by omega)⟩
end
def wI:BF:=⟨53,[0,1,4,5,6,8,10,11,12,22,23,24,25,34,35,36,37,46],(.seq (.reg [mvS 2 (.mv (.const .ae)),mvS 3 (.mv (.const (.bool false)))]) (.seq (.reg [ceS 13 0,nlE 14 13,faE 15 7 14,ldE 16 15,mvE 17 (.yM 67 [eV 16]),efE 18 (.aF 1 1 [.qJ] [(0,1,(eV 17))]),csE 4 18]) (.seq (.seq (.reg [ceS 19 0,nlE 20 19,faE 21 5 20,mvS 9 (.ld1 (eV 21)),mvS 10 (.ah (sL 9)),mvS 11 (.mv (.const (.int .i64 0)))]) (.block 0 (.loop (.seq (.reg [mvS 12 (.bin .lss .no (sL 11) (sL 10))]) (.seq (.cond (sL 12) .skip (.exit 0)) (.seq (.block 1 (.seq (.reg [mvE 26 (.aP 1 (sL 9) (sL 11)),ldE 27 26,csE 5 27]) (.reg [ceS 28 4,ceS 29 5,mvE 30 (.yM 68 [eV 29]),efE 31 (.aF 1 1 [.qJ] [(0,1,(eV 30))]),efE 32 (.append 1 8 (eV 28) (eV 31)),csE 4 32]))) (.reg [mvE 33 (.bin .add .no (sL 11) (.const (.int .i64 1))),csE 11 33]))))))) (.seq (.seq (.reg [mvS 13 (.mv (sL 4)),mvS 14 (.ah (sL 13)),mvS 15 (.mv (.const (.int .i64 0)))]) (.block 2 (.loop (.seq (.reg [mvS 16 (.bin .lss .no (sL 15) (sL 14))]) (.seq (.cond (sL 16) .skip (.exit 2)) (.seq (.block 3 (.seq (.reg [mvE 38 (.aP 1 (sL 13) (sL 15)),ldE 39 38,csE 6 39]) (.seq (.reg [ceS 41 6,ceS 42 1, .mk none (.env 43) (.qO (eV 41) [eV 42]),ceE 40 43,exE 44 0 40,exE 45 1 40, .mk none (.slot 7) (.eff (.alloc [.ae, .ae,(.bool false)])), .mk none .none (.eff (.store 3 (sL 7) (eV 44))),csE 8 45]) (.seq (.reg [mvS 17 (.mv (sL 8))]) (.cond (sL 17) (.seq (.iC [(mvE 47 (.aG 1 (sL 7)),[]),(ldE 48 47,[]),(mvE 49 (.aG 2 (sL 7)),[]),(ldE 50 49,[]),(mvE 51 (.jd (eV 50)),[]),(csE 2 48,[]),(csE 3 51,[])]) .ret) .skip))))) (.reg [mvE 52 (.bin .add .no (sL 15) (.const (.int .i64 1))),csE 15 52]))))))) (.seq (.reg [mvS 2 (.mv (.const .ae)),mvS 3 (.mv (.const (.bool false)))]) .ret))))),[.slot (sL 2), .slot (sL 3)]⟩
def abp (h:Hp MD) (o:Option EM) (r:AV) (h':Hp MD):Prop:=Keep NoB h h'/\match o with
 |some x=>∃v,r= .tup [v, .bool (!x.gone)]/\RS h' 1 v x.val.length (x.val.map ub)/\∀k,blk v k->h.n<=k
 |none=>r= .tup [.ae, .bool false]
structure KwG (E:Nat->Option (Ent MD)):Prop extends KwR E where
 acz:E 26=some (.bc wI)
theorem zV (s:List UInt8):∀{rs:List (List EM)},(∀r∈rs,dI r)->∀{r:List EM},dI r->aO EM.key (joinL (r::rs)) s=match aO EM.key r s with|some e=>some e.own|none=>aO EM.key (joinL rs) s:=fun {rs} _ {r} hr=>lX s (dL rs) hr
theorem uO (s:List UInt8):∀{ls:List (List EM)},(∀r∈ls,dI r)->∀{j:Nat},(∀(i:Nat) l,i < j->ls[i]?=some l->aO EM.key l s=none)->aO EM.key (joinL ls) s=aO EM.key (joinL (ls.drop j)) s
 |_,_,0,_=>by rw [List.drop_zero]
 |[],_,j+1,_=>by simp
 |l::ls,hr,j+1,h=>by
  rw [zV s (fun r q=>hr r (List.mem_cons_of_mem _ q)) (hr l (List.mem_cons_self ..)),h 0 l (Nat.succ_pos _) rfl,List.drop_succ_cons]
  exact uO s (fun r q=>hr r (List.mem_cons_of_mem _ q)) (fun i x hi hx=>h (i+1) x (by omega) (by simpa using hx))
section
variable {E:Nat->Option (Ent MD)}
set_option maxHeartbeats 8000000 in
theorem Xm (hE:∀f e,E f=some e->e.plain) (T:KwG E) {h:Hp MD} {db gd:Nat} {each:Bool} {K:KS} {W F:Nat->Prop} (D:DbH h db gd each K W F) (ok:KOK K) {av:AV} {a:List UInt8} (ha:RS h 1 av a.length (a.map ub)):
  WF (lim E) 26 [.ptr db 0,av] h fun r h'=>abp h (aO EM.key (joinL (K.held::K.tabs)) a) r h':=by
 obtain ⟨gl,gm,vm,vt,vn,Fm,R,D,_⟩:=D.out
 obtain ⟨tc,t1,t2,t3⟩:=D.tabs.out
 have mr:=D.mem.OH
 have hmx:(maxLen:Nat)=9223372036854775807:=rfl
 have hlen:=ok.len
 refine aC hE T.acz rfl ?_
 simp only [wI,mvE,mvS,clE,efE,ceS,ceE,csE,faE,nlE,ldE,lnE,exE,eV,sL,kI,List.map,getS]
 have kp:Keep NoB h (h.push (.rw [.meth 67 [.ptr gm 0]])):=Keep.push _ _ _
 have as0:Asks h (h.push (.rw [.meth 67 [.ptr gm 0]])) 67 68 (.slice 1 h.n 0 1 (some 1)) [K.held] (fun k=>k < h.n):=
  ⟨[.meth 67 [.ptr gm 0]],vT,fun k q=>by have q:k=h.n:=q;omega,fun i l hi=>by
   cases i with
   |zero=>simp at hi;subst hi;exact ⟨_,gm,rfl, .inl rfl,mr.lt.on (fun k q=>q.2)⟩
   |succ i=>simp at hi⟩
 repeat first|refine ZA ?_|refine BV (ak rfl) ?_|refine BV (au D.bx rfl rfl) ?_|refine BW (dO (c:= .meth 67 [.ptr gm 0]) rfl rfl rfl) ?_|refine BP ?_|refine BQ ?_
 obtain ⟨h1,hh1⟩:∃h1:Hp MD,h1=h.push (.rw [.meth 67 [.ptr gm 0]]):=⟨_,rfl⟩
 refine aJ (h':=h1) (by rw [hh1];first|done|rfl) ?_
 rw [<-hh1] at kp as0
 have n1:h1.n=h.n+1:=by rw [hh1];rfl
 clear hh1
 have bx1:=D.bx.up kp
 have t11:=t1.up kp
 repeat first|refine ZA ?_|refine BV (au bx1 rfl rfl) ?_|refine BV (t11.ah (by rfl)) ?_|refine BP ?_|refine BQ ?_
 refine aQ (fun q t g=>∃(s4 s5 s6 s7 s8 s12 s13 s14 s15 s16 s17:AV) (j:Nat),j<=K.tabs.length/\q=K.tabs.length - j/\Keep NoB h g/\Asks h g 67 68 s4 (K.held::K.tabs.take j) (fun k=>k < h.n)/\t=[.ptr db 0,av, .ae, .bool false,s4,s5,s6,s7,s8,vt, .int .i64 K.tabs.length, .int .i64 j,s12,s13,s14,s15,s16,s17]) ?_ K.tabs.length _ _ ⟨_,_,_,_,_,_,_,_,_,_,_,0,by omega,by omega,kp,as0,rfl⟩
 clear as0 bx1 t11 kp n1
 rintro q t g ⟨s4,s5,s6,s7,s8,s12,s13,s14,s15,s16,s17,j,hj,hq,Kp,A,rfl⟩
 have gn:=Kp.n
 by_cases hlt:j < K.tabs.length
 ·obtain ⟨gt,g1,g2,g3⟩:=t3 j _ (List.getElem?_eq_getElem hlt)
  obtain ⟨ga,oa,pa,la⟩:=(t1.up Kp).at2 hlt
  have la:∀{e:En} {t:List AV} {x:Od},x.ev e t= .ptr ga oa->(Mv.ld1 x).ev e t g=some (.ptr gt 0):=fun hx=>(la (S:=NoB) (Keep.refl _ _) (fun _ _ q=>q) hx).trans g1
  obtain ⟨cells,c1,c2⟩:=A.next gn (f:=68) (.inr rfl) (g3.lt.on (fun k q=>q.2))
  rw [List.length_cons,List.length_take,Nat.min_eq_left hj] at c1 c2
  repeat first|refine ZA ?_|refine BV (pa rfl rfl) ?_|refine BV (la rfl) ?_|refine BW (dO (c:= .meth 68 [.ptr gt 0]) rfl rfl rfl) ?_|refine BP ?_|refine BQ ?_
  refine aA rfl rfl c1 Nat.zero_lt_one (bH (n:=1) rfl) (by omega) (by omega) fun v' h4 a1 a2 a3=> ?_
  have A2:=c2 v' h4 a1 a2 a3
  repeat first|refine ZA ?_|refine BP ?_|refine BQ ?_
  have al:∀k,blk s4 k->h.n<=k:=by obtain ⟨_,_,z,_⟩:=A.out;exact z
  refine aj (K.tabs.length - (j+1)) (by omega) ⟨v',_,_,_,_,_,_,_,_,_,_,j+1,by omega,rfl,(Kp.and (Keep.push _ _ _)).trans a2 (fun k z1 z2=>by have:=al k z2;omega), ?_,rfl⟩
  rw [take_snoc (List.getElem?_eq_getElem hlt),<-List.cons_append]
  exact A2
 ·obtain rfl:j=K.tabs.length:=by omega
  rw [List.take_length] at A
  generalize hL:K.held::K.tabs=L at*
  have hLl:L.length=K.tabs.length+1:=by rw [<-hL];rfl
  obtain ⟨ac,a1,a2,a3⟩:=A.out
  have ris:∀r∈L,dI r:=fun r hr=>(ok.rows r (by rw [hL];exact hr)).ris
  repeat first|refine ZA ?_|refine BV (a1.rs.ah (by rfl)) ?_|refine BP ?_|refine BQ ?_
  refine aQ (fun q t g2=>∃(s6 s7 s8 s16 s17:AV) (j:Nat),j<=L.length/\q=L.length - j/\Keep NoB g g2/\(∀(i:Nat) l,i < j->L[i]?=some l->aO EM.key l a=none)/\t=[.ptr db 0,av, .ae, .bool false,s4,s5,s6,s7,s8,vt, .int .i64 K.tabs.length, .int .i64 K.tabs.length, .bool false,s4, .int .i64 L.length, .int .i64 j,s16,s17]) ?_ L.length _ _ ⟨_,_,_,_,_,0,by omega,by omega,Keep.refl _ _,fun i l q=>by omega,rfl⟩
  rintro q t g2 ⟨s6,s7,s8,s16,s17,j,hj,hq,K2,hno,rfl⟩
  have g2n:=K2.n
  have K3:=Kp.and K2
  by_cases hlt:j < L.length
  ·obtain ⟨f,g0,q1,q2,q3⟩:=a3 j _ (List.getElem?_eq_getElem hlt)
   obtain ⟨ga,oa,pa,la⟩:=(a1.up K2).rs.at2 hlt
   have la:∀{e:En} {t:List AV} {x:Od},x.ev e t= .ptr ga oa->(Mv.ld1 x).ev e t g2=some (.meth f [.ptr g0 0]):=fun hx=>(la (S:=NoB) (Keep.refl _ _) (fun _ _ q=>q) hx).trans q1
   have lm:L[j]∈L:=List.getElem_mem _
   have hw:WF (lim E) f [.ptr g0 0,av] g2 fun r h'=>GetPost g2 (aO EM.key L[j] a) r h':=by
    have hr:=ok.rows L[j] (by rw [hL];exact lm)
    rcases q2 with rfl|rfl
    ·exact Xe hE T.p.toKmT (q3.up K3) hr (ha.up K3)
    ·exact Xh hE T.p.toKtT (q3.up K3) hr (ha.up K3)
   repeat first|refine ZA ?_|refine BV (pa rfl rfl) ?_|refine BV (la rfl) ?_|refine BP ?_|refine BQ ?_
   refine yH rfl rfl (hw.mono fun r g3 ⟨k3,o3⟩=> ?_)
   have k3n:=k3.n
   have kq:Keep NoB g3 (g3.push (.rw [.ae, .ae, .bool false])):=Keep.push _ _ _
   cases hg:aO EM.key L[j] a with
   |none=>
    rw [hg] at o3
    have o3:r= .tup [.agg [.ae, .ae, .bool false], .bool false]:=o3
    subst o3
    repeat first|refine ZA ?_|refine BW (aV aH rfl rfl rfl rfl (Nat.le_refl _)) ?_|refine BP ?_|refine BQ ?_
    have kr:Keep (az g3.n) (g3.push (.rw [.ae, .ae, .bool false])) ((g3.push (.rw [.ae, .ae, .bool false])).put g3.n (.rw [.ae, .ae, .bool false])):=Keep.put _ _ _ rfl
    refine aj (L.length - (j+1)) (by omega) ⟨_,_,_,_,_,j+1,by omega,rfl,(K2.and k3).and (kq.own kr (fun k z=>by have z:k=g3.n:=z;omega)),fun i l hi hl=> ?_,rfl⟩
    by_cases hij:i < j
    ·exact hno i l hij hl
    ·obtain rfl:i=j:=by omega
     rw [List.getElem?_eq_getElem hlt] at hl
     cases hl
     exact hg
   |some x=>
    rw [hg] at o3
    obtain ⟨q,e3,v3,l3⟩:∃q,r= .tup [.agg (f3 q), .bool true]/\eH g3 q x.own/\∀k,blk q.1 k\/blk q.2.1 k->g2.n<=k:=o3
    subst e3
    obtain ⟨qa,qb,qc⟩:=q
    have hall:allOne [qa,qb, .bool qc]=true:=aX v3.key.one.2 v3.val.one.2 rfl
    repeat first|refine ZA ?_|refine BW (aV aH rfl rfl hall rfl (Nat.le_refl _)) ?_|refine BP ?_|refine BQ ?_
    have b4:Bx ((g3.push (.rw [.ae, .ae, .bool false])).put g3.n (.rw (spl 0 (f3 (qa,qb,qc)) [.ae, .ae, .bool false]))) g3.n [qa,qb, .bool qc]:=Bx.put aH
    repeat first|refine ZI ?_|refine CB (au b4 rfl rfl) ?_|refine CB (di rfl) ?_|refine BV (au b4 rfl rfl) ?_|refine BV (di rfl) ?_|refine BP ?_|refine BQ ?_|refine CC ?_
    have kr:Keep (az g3.n) (g3.push (.rw [.ae, .ae, .bool false])) ((g3.push (.rw [.ae, .ae, .bool false])).put g3.n (.rw (spl 0 (f3 (qa,qb,qc)) [.ae, .ae, .bool false]))):=Keep.put _ _ _ rfl
    have kk:=kq.own kr (fun k z=>by have z:k=g3.n:=z;omega)
    have e:=uO a ris (j:=j) hno
    rw [List.drop_eq_getElem_cons hlt,zV a (fun r z=>ris r (List.mem_of_mem_drop z)) (ris _ lm),hg] at e
    rw [e]
    have hgn:x.gone=qc:=v3.gone.symm
    refine ⟨(K3.and k3).and kk,qb,by rw [show x.own.gone=x.gone from rfl,hgn];rfl,(v3.val.up kk),fun k z=>by have:=l3 k (.inr z);omega⟩
  ·obtain rfl:j=L.length:=by omega
   repeat first|refine ZA ?_|refine BP ?_|refine BQ ?_
   have e:=uO a ris (j:=L.length) hno
   rw [List.drop_length] at e
   rw [e]
   exact ⟨K3,rfl⟩
end
end Am
end Go.Proofs.YtbnkdnlfdofepaaGreat
