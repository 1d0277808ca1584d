/- table.Build: what it hands back is what tabB tells. table.Build, as a function of the table. table.parts, table.Open of what Build wrote. table.Open of what Build wrote. -/
import Derived.Test.YtbnkdnlfdofepaaGreatXA
import Derived.Test.YtbnkdnlfdofepaaGreatXD
import Derived.Lib.AppendStr
import Derived.Deep.RegionHeldLaw
set_option linter.unusedVariables false
set_option linter.unusedSimpArgs false
namespace Go.Proofs.YtbnkdnlfdofepaaGreat
open Go.RowKit
set_option maxRecDepth 100000
attribute [local go_sem] Oper.semAt_some
theorem rO {F:Fence} {n':Nat} {P:Program} (w:World) {ops:Array Oper} {rest:List Oper} {o:Oper} {a:Act} {Q:Exit->Act->World->Prop} (hgd:o.guard=none) (s x:Operand) (t:TypeId)
  (ho:o.op= .call {callee:= .builtin .append,args:= #[s,x],argTypes:= #[t,t]})
  (base:Nat) (e:TypeId) (i:TypeInfo) (z:Value) (size bytes:Nat) (ht:P.underlying t=some (.slice e)) (hi:P.info? e=some i) (hz:i.zero=some z)
  (hsize:i.size=size) (hby:i.bytes=bytes) (hzs:z.cells.size=size) (hsz:0 < size)
  (v:Value) (n:Nat) (xs:List Value) (hs:a.eval s=v) (hown:w.ownsRow base e size v n xs)
  (ad:Addr) (m c:Nat) (news:List Value) (hx:a.eval x= .slice (some ad) m c) (hl:news.length=m*size) (hnews:∀j u,news[j]?=some u->w.cell? (ad.add j)=some u) (h1:∀u∈news,u.oneCell'=true)
  (hm:0 < m) (h63:n+m<=maxLen) (hbytes:(n+m)*bytes<=140737488355328) (hbase:base<=w.heap.size)
  (h:∀g cap w',w'.ownsRow base e size (.slice (some ⟨g,0,none⟩) (n+m) cap) (n+m) (xs++news)->w.grownBy w' v.ownBlock->(v.ownBlock=some g\/g=w.heap.size)->wpListIn F n' P ops Q rest (a.put o.dst (.slice (some ⟨g,0,none⟩) (n+m) cap)) w'):wpListIn F n' P ops Q (o::rest) a w:=by
 refine wpListIn_plain hgd fun K hK=> ?_
 obtain ⟨g,cap,w',hr,h2,h3,h4,h5⟩:=run_append_lies (P:=P) w t o.type base e i z size bytes ht hi hz hsize hby hzs hsz v n xs hown ad m c news hl hnews h1 hm h63 hbytes hbase _ rfl
 unfold Oper.wpIn
 refine ⟨?_, ?_⟩
 ·simp [Oper.about,ho,resolve,Target.leads,Sem.run_pure]
 ·rw [Oper.semAt_plain F _ _ (by rw [ho];intro c hc';cases hc')]
  simp [execOp,ho,resolve,invoke,builtin,hs,hx,hr,Result.andThen]
  exact hK _ _ (h g cap w' h2 h3 h4)
theorem uf {F:Fence} {n':Nat} {P:Program} (w:World) {ops:Array Oper} {rest:List Oper} {o:Oper} {a:Act} {Q:Exit->Act->World->Prop} (hgd:o.guard=none) (s x:Operand) (t u:TypeId)
  (ho:o.op= .call {callee:= .builtin .append,args:= #[s,x],argTypes:= #[t,u]})
  (base:Nat) (e:TypeId) (i:TypeInfo) (ht:P.underlying t=some (.slice e)) (hu:P.underlying u=some .string) (hi:P.info? e=some i) (hz:i.zero=some (.int .u8 0))
  (hsize:i.size=1) (hby:i.bytes=1)
  (v:Value) (n:Nat) (xs:List Value) (hs:a.eval s=v) (hown:w.ownsRow base e 1 v n xs) (st:ByteArray) (hx:a.eval x= .string st)
  (h63:n+st.size<=maxLen) (hbytes:n+st.size<=140737488355328) (hbase:base<=w.heap.size)
  (h:∀v' w',w'.ownsRow base e 1 v' (n+st.size) (xs++Lib.strCells st)->w.grownBy w' v.ownBlock->wpListIn F n' P ops Q rest (a.put o.dst v') w'):wpListIn F n' P ops Q (o::rest) a w:=by
 refine wpListIn_plain hgd fun K hK=> ?_
 obtain ⟨v',w',hr,h2,h3,h4⟩:=Lib.run_append_own_string (P:=P) w base t u o.type e i ht hu hi hz hsize hby v n xs hown st h63 hbytes hbase
 unfold Oper.wpIn
 refine ⟨?_, ?_⟩
 ·simp [Oper.about,ho,resolve,Target.leads,Sem.run_pure]
 ·rw [Oper.semAt_plain F _ _ (by rw [ho];intro c hc';cases hc')]
  simp [execOp,ho,resolve,invoke,builtin,hs,hx,hr,Result.andThen]
  exact hK _ _ (h v' w' h2 h3)
structure TB (W0:World) (B4:Nat) (sv:Value) (n:Nat) (b i:List UInt8) (vb vi:Value) (W:World):Prop where
 r2:Boxed W W0.heap.size 23 (.slice none 0 0)
 r3:Boxed W (W0.heap.size+1) 28 (.int .i64 0)
 r4:Boxed W B4 23 vb
 r5:Boxed W (B4+1) 23 vi
 r6:Boxed W (B4+2) 3 (.int .i64 (n:Int))
 r7:Boxed W (B4+3) 71 sv
 r8:Boxed W (B4+4) 3 (.int .i64 8)
 b:W.ownsRow W0.heap.size 5 1 vb b.length (b.map bv)
 i:W.ownsRow W0.heap.size 5 1 vi i.length (i.map bv)
 dis:∀j,vb.ownBlock=some j->vi.ownBlock≠some j
 bel:Below W0.heap.size W0 W
 lo:W0.heap.size+2<=B4
section
variable {W0:World} {B4:Nat} {sv:Value} {n:Nat} {b i:List UInt8} {vb vi:Value} {W W':World} {row:Option Nat}
theorem Tt {v:Value} (q:∀r,row=some r->v.ownBlock≠some r):v.ownBlock=none\/v.ownBlock≠row:=by
 cases hv:v.ownBlock with
 |none=>exact .inl rfl
 |some x=>exact .inr fun e=>q x e.symm hv
theorem TB.kept (h:TB W0 B4 sv n b i vb vi W) (hg:W.grownBy W' row) (hr:∀r,row=some r->W0.heap.size+2<=r/\(r < B4\/B4+4 < r)/\vb.ownBlock≠some r/\vi.ownBlock≠some r):TB W0 B4 sv n b i vb vi W':=by
 have ne:∀{B:Nat},(∀r,row=some r->r≠B)->some B≠row:=fun {B} q e=>q B e.symm rfl
 have lo:=h.lo
 refine ⟨h.r2.kept hg (ne fun r e=>by have:=hr r e;omega),h.r3.kept hg (ne fun r e=>by have:=hr r e;omega),h.r4.kept hg (ne fun r e=>by have:=hr r e;omega),h.r5.kept hg (ne fun r e=>by have:=hr r e;omega),h.r6.kept hg (ne fun r e=>by have:=hr r e;omega),h.r7.kept hg (ne fun r e=>by have:=hr r e;omega),h.r8.kept hg (ne fun r e=>by have:=hr r e;omega),h.b.kept hg (Tt fun r e=>(hr r e).2.2.1),h.i.kept hg (Tt fun r e=>(hr r e).2.2.2),h.dis,h.bel.grown hg h.bel.size (fun r e=>by have:=hr r e;omega),lo⟩
theorem TB.lt (h:TB W0 B4 sv n b i vb vi W):B4+4 < W.heap.size:=h.r8.lt
theorem TB.other (h:TB W0 B4 sv n b i vb vi W) (hg:W.grownBy W' row) (hr:∀r,row=some r->W0.heap.size+2<=r/\∃o:Obj,W.heap[r]?=some o/\o.isCells=false):TB W0 B4 sv n b i vb vi W':=by
 have nc:∀{r:Nat} {cs:Array Value} {t:TypeId} {f:Nat×Nat},W.heap[r]?=some (.cells cs t f)->∀o:Obj,W.heap[r]?=some o->o.isCells=false->False:=fun q o q1 q2=>by rw [q] at q1;cases q1;cases q2
 have own:∀{v:Value} {n:Nat} {xs:List Value},W.ownsRow W0.heap.size 5 1 v n xs->∀r,row=some r->v.ownBlock≠some r:=fun {v n xs} q r e q2=>by
  obtain ⟨_,o,h1,h2⟩:=hr r e
  rcases q.2 with ⟨rfl,_⟩|⟨g,cap,cur,rfl,_,hgb,_⟩
  ·cases q2
  ·cases q2;exact nc hgb o h1 h2
 refine h.kept hg fun r e=> ?_
 obtain ⟨h0,o,h1,h2⟩:=hr r e
 refine ⟨h0, ?_,own h.b r e,own h.i r e⟩
 rcases Nat.lt_or_ge r B4 with q|q
 ·exact .inl q
 rcases Nat.lt_or_ge (B4+4) r with q'|q'
 ·exact .inr q'
 exfalso
 obtain q|q|q|q|q:r=B4\/r=B4+1\/r=B4+2\/r=B4+3\/r=B4+4:=by omega
 ·subst q;exact nc h.r4 o h1 h2
 ·subst q;exact nc h.r5 o h1 h2
 ·subst q;exact nc h.r6 o h1 h2
 ·subst q;exact nc h.r7 o h1 h2
 ·subst q;exact nc h.r8 o h1 h2
theorem grown_below (hb:Below W.heap.size W W'):W.grownBy W' none:=⟨hb.os,hb.tape,hb.output,hb.size,fun k hk _=>hb.block k hk⟩
theorem TB.below (h:TB W0 B4 sv n b i vb vi W) (hb:Below W.heap.size W W'):TB W0 B4 sv n b i vb vi W':=h.kept (grown_below hb) (fun r e=>nomatch e)
theorem TB.kp (h:TB W0 B4 sv n b i vb vi W) {n':Nat} {b' i':List UInt8} {vb' vi':Value} (h':TB W0 B4 sv n' b' i' vb' vi' W'):KpB (B4+3) (B4+4) W W':=⟨(show W'.heap[B4+3]?=_ from h'.r7).trans (show W.heap[B4+3]?=_ from h.r7).symm,(show W'.heap[B4+4]?=_ from h'.r8).trans (show W.heap[B4+4]?=_ from h.r8).symm⟩
theorem TB.ach (h:TB W0 B4 sv n b i vb vi W) (hg:W.grownBy W' vb.ownBlock):Boxed W' W0.heap.size 23 (.slice none 0 0)/\Boxed W' (W0.heap.size+1) 28 (.int .i64 0)/\Boxed W' B4 23 vb/\Boxed W' (B4+1) 23 vi/\Boxed W' (B4+2) 3 (.int .i64 (n:Int))/\Boxed W' (B4+3) 71 sv/\Boxed W' (B4+4) 3 (.int .i64 8)/\W'.ownsRow W0.heap.size 5 1 vi i.length (i.map bv)/\Below W0.heap.size W0 W'/\KeepsOthers W W':=
 ⟨h.r2.kept hg (h.r2.not_row (by decide) h.b),h.r3.kept hg (h.r3.not_row (by decide) h.b),h.r4.kept hg (h.r4.not_row (by decide) h.b),h.r5.kept hg (h.r5.not_row (by decide) h.b),h.r6.kept hg (h.r6.not_row (by decide) h.b),h.r7.kept hg (h.r7.not_row (by decide) h.b),h.r8.kept hg (h.r8.not_row (by decide) h.b),h.i.kept hg (Tt fun r e=>h.dis r e),h.bel.grown hg h.bel.size (fun r e=>(h.b.lt r e).1),KeepsOthers.of_grownBy hg fun j o ej hj=>by
  rcases h.b.2 with ⟨rfl,_⟩|⟨g,cap,cur,rfl,_,hgb,_⟩
  ·cases ej
  ·cases ej;rw [hgb] at hj;cases hj;rfl⟩
theorem TB.aci (h:TB W0 B4 sv n b i vb vi W) {w3:World} {g cap k:Nat} {b':List UInt8} (hk:k=b'.length) (hg:W.grownBy w3 vb.ownBlock) (ho:w3.ownsRow W0.heap.size 5 1 (.slice (some ⟨g,0,none⟩) k cap) k (b'.map bv)) (hl:vb.ownBlock=some g\/g=W.heap.size):
  Boxed w3 B4 23 vb/\TB W0 B4 sv n b' i (.slice (some ⟨g,0,none⟩) k cap) vi (w3.setCell ⟨B4,0,none⟩ (.slice (some ⟨g,0,none⟩) k cap))/\KeepsOthers W (w3.setCell ⟨B4,0,none⟩ (.slice (some ⟨g,0,none⟩) k cap)):=by
 subst hk
 obtain ⟨q2,q3,q4,q5,q6,q7,q8,qi,qb,qk⟩:=h.ach hg
 have lo:=h.lo
 have sg:=fun v=>grownBy_setCell' w3 B4 v
 have ne4:∀{v:Value} {k:Nat} {xs:List Value},w3.ownsRow W0.heap.size 5 1 v k xs->v.ownBlock≠some B4:=fun {v k xs} q e=>q4.not_row (by decide) q e.symm
 refine ⟨q4,⟨q2.other (by omega) _,q3.other (by omega) _,q4.set _,q5.other (by omega) _,q6.other (by omega) _,q7.other (by omega) _,q8.other (by omega) _,ho.kept (sg _) (.inr (ne4 ho)),qi.kept (sg _) (.inr (ne4 qi)),fun j hj=> ?_,qb.setCell (p:=⟨B4,0,none⟩) (by show W0.heap.size<=B4;omega) _,lo⟩,qk.trans (KeepsOthers.setCell _ _ _)⟩
 cases hj
 rcases hl with e|e
 ·exact h.dis _ e
 ·intro e2
  have:g < W.heap.size:=(h.i.lt _ e2).2
  omega
theorem TB.acj (T:TB W0 B4 sv n b i vb vi W) {v':Value} {k:Nat} {b':List UInt8} (hk:k=b'.length) (ho:W.ownsRow W0.heap.size 5 1 v' k (b'.map bv)) (hd:∀j,v'.ownBlock=some j->vi.ownBlock≠some j):TB W0 B4 sv n b' i v' vi (W.setCell ⟨B4,0,none⟩ v'):=by
 subst hk
 have lo:=T.lo
 have sg:=fun v=>grownBy_setCell' W B4 v
 have ne4:∀{v:Value} {k:Nat} {xs:List Value},W.ownsRow W0.heap.size 5 1 v k xs->v.ownBlock≠some B4:=fun {v k xs} q e=>T.r4.not_row (by decide) q e.symm
 exact ⟨T.r2.other (by omega) _,T.r3.other (by omega) _,T.r4.set _,T.r5.other (by omega) _,T.r6.other (by omega) _,T.r7.other (by omega) _,T.r8.other (by omega) _,ho.kept (sg _) (.inr (ne4 ho)),T.i.kept (sg _) (.inr (ne4 T.i)),hd,T.bel.setCell (p:=⟨B4,0,none⟩) (by show W0.heap.size<=B4;omega) _,lo⟩
theorem own_base {base base' k:Nat} {v:Value} {xs:List Value} (h:W.ownsRow base 5 1 v k xs) (hb:base'<=base):W.ownsRow base' 5 1 v k xs:=⟨h.1,by
 rcases h.2 with q|⟨g,cap,cur,q1,q2,q3⟩
 ·exact .inl q
 ·exact .inr ⟨g,cap,cur,q1,by omega,q3⟩⟩
theorem TB.ack (h:TB W0 B4 sv n b i vb vi W) {w3:World} {v':Value} {k:Nat} {i':List UInt8} (hk:k=i'.length) (hb:Below W.heap.size W w3) (ho:w3.ownsRow W.heap.size 5 1 v' k (i'.map bv)):
  TB W0 B4 sv n b i' vb v' (w3.setCell ⟨B4+1,0,none⟩ v')/\KeepsOthers W (w3.setCell ⟨B4+1,0,none⟩ v'):=by
 subst hk
 have T:=h.below hb
 have lo:=h.lo
 have hs:=h.bel.size
 have ho':w3.ownsRow W0.heap.size 5 1 v' i'.length (i'.map bv):=⟨ho.1,by
  rcases ho.2 with q|⟨g,cap,cur,q1,q2,q3⟩
  ·exact .inl q
  ·exact .inr ⟨g,cap,cur,q1,by omega,q3⟩⟩
 have sg:=fun v=>grownBy_setCell' w3 (B4+1) v
 have ne5:∀{v:Value} {k:Nat} {xs:List Value},w3.ownsRow W0.heap.size 5 1 v k xs->v.ownBlock≠some (B4+1):=fun {v k xs} q e=>T.r5.not_row (by decide) q e.symm
 refine ⟨⟨T.r2.other (by omega) _,T.r3.other (by omega) _,T.r4.other (by omega) _,T.r5.set _,T.r6.other (by omega) _,T.r7.other (by omega) _,T.r8.other (by omega) _,T.b.kept (sg _) (.inr (ne5 T.b)),ho'.kept (sg _) (.inr (ne5 ho')),fun j hj e=> ?_,T.bel.setCell (p:=⟨B4+1,0,none⟩) (by show W0.heap.size<=B4+1;omega) _,lo⟩,(KeepsOthers.of_grownBy (grown_below hb) (fun j o e=>nomatch e)).trans (KeepsOthers.setCell _ _ _)⟩
 have:=(h.b.lt _ hj).2
 have:=(ho.lt _ e).1
 omega
theorem TB.next (h:TB W0 B4 sv n b i vb vi W) (n':Nat):TB W0 B4 sv n' b i vb vi (W.setCell ⟨B4+2,0,none⟩ (.int .i64 (n':Int))):=by
 have lo:=h.lo
 have sg:=fun v=>grownBy_setCell' W (B4+2) v
 have ne6:∀{v:Value} {k:Nat} {xs:List Value},W.ownsRow W0.heap.size 5 1 v k xs->v.ownBlock≠some (B4+2):=fun {v k xs} q e=>h.r6.not_row (by decide) q e.symm
 exact ⟨h.r2.other (by omega) _,h.r3.other (by omega) _,h.r4.other (by omega) _,h.r5.other (by omega) _,h.r6.set _,h.r7.other (by omega) _,h.r8.other (by omega) _,h.b.kept (sg _) (.inr (ne6 h.b)),h.i.kept (sg _) (.inr (ne6 h.i)),h.dis,h.bel.setCell (p:=⟨B4+2,0,none⟩) (by show W0.heap.size<=B4+2;omega) _,lo⟩
theorem JP {base:Nat} {v:Value} {l:List UInt8} (h:W.ownsRow base 5 1 v l.length (l.map bv)):Rd W 1 v l.length (l.map bv):=by
 refine ⟨by rw [List.length_map];omega, ?_, ?_⟩
 ·rcases h.2 with ⟨_,e⟩|⟨g,cap,cur,_,_,_,h1,h2,_⟩
  ·omega
  ·omega
 ·rcases h.2 with ⟨rfl,e⟩|⟨g,cap,cur,rfl,_,hg,h1,h2,_⟩
  ·exact ⟨none,0,by rw [e],by omega,by unfold maxLen;omega,fun _=>⟨e,rfl⟩,fun _ q=>nomatch q⟩
  ·exact ⟨_,cap,rfl,h1,h2,(fun q=>nomatch q),fun a q=>by cases q;exact ⟨fun _=>rfl,fun j u hu=>h.cells rfl j u hu⟩⟩
end
section
open Am
structure WX (W0:World) (v:Value) (l:List EM):Prop where
 ok:jX l
 out:∃(m:Mu) (h:Hp MD) (g o:Nat) (cap:Option Nat) (ad:Addr) (c:Nat) (F:Nat->Prop),InR OD W0 m h/\aN h (.slice 3 g o l.length cap) l F/\VR m (.slice 3 g o l.length cap) v/\v= .slice (some ad) l.length c
theorem WY {l:List EM} (h:jX l):SG l:=⟨h.ris,h.ok⟩
theorem Ii {l:List EM} (h:jX l) (k:Nat):SG (bZ l k):=⟨h.ris.sublist ((List.take_sublist _ _).trans (List.drop_sublist _ _)),fun e he=>h.ok e (wu he)⟩
theorem ZJ {W0 W:World} {v:Value} {l:List EM} (A:WX W0 v l) (hB:Below W0.heap.size W0 W):Calls Tryz.prog 159 #[v] W fun e w'=>e= .returned (.bool true)/\Below W.heap.size W w':=by
 obtain ⟨m,h,g,o,cap,ad,c,F,IR,en,hv,_⟩:=A.out
 refine ((IR.below hB).call Tq (MC Dh Yc.toKbT en (by have:=A.ok.most;omega) (WY A.ok)) (args':=[v]) (by simp only [VRs];exact ⟨_,_,rfl,hv,rfl⟩)).mono fun e w' ⟨r,h',m',φ',v',h1,⟨_,h2⟩,h3,h4⟩=> ?_
 subst h2
 simp only [VR] at h4
 subst h4
 exact ⟨h1,h3.below⟩
theorem ZK {W0 W:World} {v:Value} {l:List EM} (A:WX W0 v l) (hB:Below W0.heap.size W0 W) {ad:Addr} {c k:Nat} (ev:v= .slice (some ad) l.length c) (hk:k < bu l):Calls Tryz.prog 161 #[wC ad l.length k] W fun e w'=>∃v' m' h' φ' r,e= .returned (.tuple #[v', .int .i64 0])/\Rd w' 1 v' (dV (bZ l k)).length ((dV (bZ l k)).map bv)/\Below W.heap.size W w'/\SR OD W w' m' φ' h'/\VR m' r v':=by
 obtain ⟨m,h,g,o,cap,ad',c',F,IR,en,hv,ev'⟩:=A.out
 rw [ev] at ev'
 cases ev'
 subst ev
 have hk':8*k < l.length:=by unfold bu at hk;omega
 have hpl:=wo l k
 have hp:VR m (.slice 3 g (o+24*k) (bZ l k).length (some (bZ l k).length)) (wC ad l.length k):=by
  simp only [VR] at hv
  obtain ⟨p,ad',c',q1,q2,q3,q4,q5,q6,q7⟩:=hv
  simp only [Value.slice.injEq,Option.some.injEq] at q2
  obtain ⟨rfl,_,rfl⟩:=q2
  have q5:=q5 (by omega)
  subst q5
  unfold wC
  simp only [VR]
  refine ⟨p,_,_,q1,by rw [hpl],by omega,by have:=A.ok.most;unfold maxLen;omega,fun _=>by rw [Addr.add_lit,Nat.add_assoc],q6,hpl.symm⟩
 refine ((IR.below hB).call Tq (Df Dh Yc (en.part (by omega)) (by omega) (by omega) (Ii A.ok k) (fun e he=>A.ok.nrm e (wu he))) (args':=[wC ad l.length k]) (by simp only [VRs];exact ⟨_,_,rfl,hp,rfl⟩)).mono fun e w' ⟨r,h',m',φ',v',h1,⟨_,o',h2,h5,_⟩,h3,h4⟩=> ?_
 subst h2
 simp only [VR,VRs] at h4
 obtain ⟨ls,rfl,v1,vs1,rfl,h6,v2,vs2,rfl,rfl,rfl⟩:=h4
 exact ⟨v1,m',h',φ',o',h1,aa7 h3 h5 h6,h3.below,h3,h6⟩
theorem zQ {l:List EM} (h:jX l) {N:Nat}:∀pre:List (PtN N),(pre.map fun x=>dV (bZ l x.1)).flatten.length<=34848*pre.length
 |[]=>by simp
 |x::pre=>by
  have h1:=zQ h pre
  have h2:=ER (K:=4350) (l:=l) (fun e he=>by have:=kQ (h.ok e he);omega) x.1
  simp only [List.map_cons,List.flatten_cons,List.length_append,List.length_cons]
  omega
theorem MH (l:List EM):0 < (dV l).length:=by rw [zL];omega
theorem WZ {w:World} {v:Value} {n:Nat} {xs:List Value} (h:Rd w 1 v n xs) (hn:0 < n):∃a c,v= .slice (some a) n c/\∀j u,xs[j]?=some u->w.cell? (a.add j)=some u:=by
 obtain ⟨_,_,a,c,rfl,_,_,h1,h2⟩:=h
 cases a with
 |none=>have:=(h1 rfl).1;omega
 |some a=>exact ⟨a,c,rfl,(h2 a rfl).2⟩
set_option maxHeartbeats 4000000 in
theorem tbuild_w {W0:World} {v:Value} {l:List EM} (A:WX W0 v l):Calls Tryz.prog 125 #[v] W0 fun e w'=>∃v',e= .returned (.tuple #[v', .int .i64 0])/\w'.ownsRow W0.heap.size 5 1 v' (dM l).length ((dM l).map bv)/\Below W0.heap.size W0 w':=by
 obtain ⟨i0,hi,hz0,hz1,hz2⟩:=info_parts Sj
 obtain ⟨ad,c,ev,hnc,hcm⟩:∃ad c,v= .slice (some ad) l.length c/\l.length<=c/\c<=maxLen:=by
  obtain ⟨m,h,g,o,cap,ad,c,F,IR,en,hv,ev⟩:=A.out
  simp only [VR] at hv
  obtain ⟨p,ad',c',q1,q2,q3,q4,_⟩:=hv
  exact ⟨ad',c',q2,q3,q4⟩
 have hl1:=A.ok.pos
 have hl2:=A.ok.most
 have n1:¬((l.length:Int) < 1):=by omega
 have n2:¬((65535:Int) < l.length):=by omega
 refine (callsIn_wide (n:=5)).1 ?_
 refine callsIn_of_wp_marks Tryz.func125 rfl trivial ?_ rfl
 simp only [Tryz.ntmps125,List.size_toArray,List.length_cons,List.length_nil,Nat.reduceAdd,Nat.reduceSub,Array.replicate_succ,Array.replicate_zero,List.push_toArray,List.append_toArray,List.nil_append,List.cons_append]
 have A':=Lib.hid A
 clear A
 subst ev
 have hb0:=Lib.hid ((((Below.refl W0.heap.size W0).alloc (Nat.le_refl _) (.cells #[.slice none 0 0] 23)).alloc (by simp) (.cells #[.int .i64 0] 28)))
 gi_wp2_with (refine ⟨trivial, ?_⟩;gi_at_call 159;refine (callsIn_wide.2 (ZJ A'.out hb0.out)).mono ?_;rintro e w1 ⟨rfl,h2⟩;have H2:=Lib.hid h2;clear h2)
 have hsz1:W0.heap.size+2<=w1.heap.size:=by have:=H2.out.size;simp at this;omega
 have hb1:=Lib.hid (hb0.out.trans (H2.out.mono (by simp;omega)))
 have t0:TB W0 w1.heap.size (.slice (some ad) l.length c) 0 [] [] (.slice none 0 0) (.slice none 0 0) (((((w1.alloc (.cells #[.slice none 0 0] 23)).alloc (.cells #[.slice none 0 0] 23)).alloc (.cells #[.int .i64 0] 3)).alloc (.cells #[.slice (some ad) l.length c] 71)).alloc (.cells #[.int .i64 8] 3)):=by
  have r2:=((Boxed.new W0 23 (.slice none 0 0)).alloc (.cells #[.int .i64 0] 28)).kept (W':=w1) (row:=none) ⟨H2.out.os,H2.out.tape,H2.out.output,H2.out.size,fun k hk _=>H2.out.block k hk⟩ (by simp)
  have r3:=(Boxed.new (W0.alloc (.cells #[.slice none 0 0] 23)) 28 (.int .i64 0)).kept (W':=w1) (row:=none) ⟨H2.out.os,H2.out.tape,H2.out.output,H2.out.size,fun k hk _=>H2.out.block k hk⟩ (by simp)
  rw [World.size_alloc] at r3
  have r4:=Boxed.new w1 23 (.slice none 0 0)
  have r5:=Boxed.new (w1.alloc (.cells #[.slice none 0 0] 23)) 23 (.slice none 0 0)
  have r6:=Boxed.new ((w1.alloc (.cells #[.slice none 0 0] 23)).alloc (.cells #[.slice none 0 0] 23)) 3 (.int .i64 0)
  have r7:=Boxed.new (((w1.alloc (.cells #[.slice none 0 0] 23)).alloc (.cells #[.slice none 0 0] 23)).alloc (.cells #[.int .i64 0] 3)) 71 (.slice (some ad) l.length c)
  have r8:=Boxed.new ((((w1.alloc (.cells #[.slice none 0 0] 23)).alloc (.cells #[.slice none 0 0] 23)).alloc (.cells #[.int .i64 0] 3)).alloc (.cells #[.slice (some ad) l.length c] 71)) 3 (.int .i64 8)
  simp only [World.size_alloc,Nat.add_assoc,Nat.reduceAdd] at r5 r6 r7 r8
  exact ⟨((((r2.alloc _).alloc _).alloc _).alloc _).alloc _,((((r3.alloc _).alloc _).alloc _).alloc _).alloc _,(((r4.alloc _).alloc _).alloc _).alloc _,((r5.alloc _).alloc _).alloc _,(r6.alloc _).alloc _,r7.alloc _,r8,World.ownsRow_nil _ _ _ _,World.ownsRow_nil _ _ _ _,(fun j hj=>by cases hj),((((hb1.out.alloc (by omega) _).alloc (by simp;omega) _).alloc (by simp;omega) _).alloc (by simp;omega) _).alloc (by simp;omega) _,hsz1⟩
 have T0:=Lib.hid t0
 clear t0
 gi_wp2_with (refine ⟨trivial, ?_⟩;gi_at_call 160;refine (Sm _ _ _ _ _).mono ?_;rintro e w' ⟨rfl,rfl⟩)
 refine wpIn_rangeFunc_ownG rfl (by omega) (gf:=177) (lb:= #[.pointer (some ⟨w1.heap.size+1+1+1,0,none⟩), .pointer (some ⟨w1.heap.size+1+1+1+1,0,none⟩)]) rfl trivial (enters_of Tryz.func177 (by kernel_rfl) rfl)
  (Ia _ (by omega) (w1.heap.size+1+1+1) (w1.heap.size+1+1+1+1) l.length c ad hnc (by omega) _ ?sz1 ?sz2 ?c1 ?c2) (fun h k=>h.trans k) ?hkb (Below.refl _ _) (fun _=>rfl)
  (fun pre W=>∃vb vi,TB W0 w1.heap.size (.slice (some ad) l.length c) pre.length (pre.map fun x=>dV (bZ l x.1)).flatten (gq (pre.map fun x=>dV (bZ l x.1))) vb vi W)
  (fun _ _ _=>False) ?own (fun _ _ _ _ _ hs _ _=>hs) ⟨_,_,T0.out⟩
  (fun x=>{tmps:= #[.slice (some ad) l.length c,undef, .pointer (some ⟨W0.heap.size,0,none⟩), .pointer (some ⟨W0.heap.size+1,0,none⟩), .pointer (some ⟨w1.heap.size,0,none⟩), .pointer (some ⟨w1.heap.size+1,0,none⟩), .pointer (some ⟨w1.heap.size+1+1,0,none⟩),wC ad l.length x.1,undef,undef,undef, .slice (some ad) l.length c, .int .i64 l.length, .bool false, .bool false, .slice (some ad) l.length c, .int .i64 l.length, .bool false, .bool false, .bool false, .slice (some ad) l.length c, .bool true, .bool false, .bool false, .slice (some ad) l.length c, .func (.func 177) #[] #[.pointer (some ⟨w1.heap.size+1+1+1,0,none⟩), .pointer (some ⟨w1.heap.size+1+1+1+1,0,none⟩)],wC ad l.length x.1,undef,undef,undef,undef,undef,undef,undef,undef,undef,undef,undef,undef,undef,undef,undef,undef,undef,undef,undef,undef,undef,undef,undef,undef,undef,undef,undef,undef,undef,undef,undef],defers:=[]}) ?assign ?body ?done ?stop
 case sz1=>simp
 case sz2=>simp
 case c1=>exact T0.out.r7.cell
 case c2=>exact T0.out.r8.cell
 case hkb=>exact fun W l o o' hl h _ _=>⟨World.putObj_heap_other (by simp at hl;omega),World.putObj_heap_other (by simp at hl;omega)⟩
 case own=>exact fun s W W' row ⟨vb,vi,T⟩ hg hr=>⟨vb,vi,T.other hg (fun r e=>⟨by have:=(hr r e).1;simp at this;omega,(hr r e).2⟩)⟩
 case assign=>
  intro l x W K hK
  gi_wp2
  exact hK
 case body=>
  rintro L pre x W ⟨vb,vi,T⟩ hlt
  have hfl:=zQ A'.out.ok pre
  have hxl:=ER (K:=4350) (l:=l) (fun e he=>by have:=kQ (A'.out.ok.ok e he);omega) x.1
  have hx0:=MH (bZ l x.1)
  have hil:=yG (pre.map fun x=>dV (bZ l x.1))
  rw [List.length_map] at hil
  have Yd:((pre++[x]).map (fun x=>dV (bZ l x.1))).flatten=(pre.map fun x=>dV (bZ l x.1)).flatten++dV (bZ l x.1):=by simp
  have Ye:gq ((pre++[x]).map (fun x=>dV (bZ l x.1)))=gq (pre.map fun x=>dV (bZ l x.1))++encB (dV (bZ l x.1)).length 4:=by simp [gq]
  have Yf:(pre++[x]).length=pre.length+1:=by simp
  have hpart:∀W,Below W0.heap.size W0 W->_:=fun W hB=>ZK A'.out hB (k:=x.1) rfl x.2
  have HP:=Lib.hid hpart
  clear hpart
  generalize (pre.map fun x=>dV (bZ l x.1)).flatten=b at*
  generalize gq (pre.map fun x=>dV (bZ l x.1))=ix at*
  generalize dV (bZ l x.1)=bx at*
  have HT:=Lib.hid T
  have E1:=Lib.hid Yf
  have E2:=Lib.hid Yd
  have E3:=Lib.hid Ye
  clear T Yf Yd Ye
  gi_wp2_with (first
   |(refine ⟨trivial, ?_⟩;gi_at_call 161;refine (CallsIn.inRound L (callsIn_wide.2 (HP.out _ HT.out.bel))).mono ?_;rintro e w2 ⟨vx,m',h',φ',r',rfl,h2,h3,h4,h5⟩;obtain ⟨ax,cx,rfl,hx⟩:=WZ h2 hx0;have HX:=Lib.hid hx;have H3:=Lib.hid h3;have T2:=HT.out.below h3;have hc4:=T2.r4.cell;have HT2:=Lib.hid T2;clear h2 h3 h4 h5 hx T2)
   |(gi_at_builtin;refine rO _ rfl _ _ 23 rfl W0.heap.size 5 i0 (.int .u8 0) 1 1 Tryz.underlying23 hi hz0 hz1 hz2 rfl (by decide) _ _ _ rfl HT2.out.b ax _ cx _ rfl (by rw [List.length_map];omega) HX.out (uF _) hx0 (by unfold maxLen;omega) (by omega) HT2.out.bel.size ?_;intro g cap w3 q1 q2 q3;rw [<-List.map_append] at q1;have QQ:=Lib.hid (HT2.out.aci (b':=b++bx) (by rw [List.length_append]) q2 q1 q3);have c4:=QQ.out.1.cell;have f4:=QQ.out.1.frozen;have c5:=QQ.out.2.1.r5.cell;clear q1 q2 q3)
   |(refine ⟨trivial, ?_⟩;gi_at_call 66;refine (CallsIn.inRound L (callsIn_wide.2 (zM (JP QQ.out.2.1.i) (uF _) (by omega) bx.length 4 (by omega) (by omega)))).mono ?_;rintro e w5 ⟨v5,rfl,o1,o2⟩;obtain ⟨g5,cap5,rfl,_⟩:=o1.form (by omega);have T5:=QQ.out.2.1.below o2;have c51:=T5.r5.cell;have f51:=T5.r5.frozen;rw [<-List.map_append] at o1;have T6:=QQ.out.2.1.ack (by rw [List.length_append,aB]) o2 o1;have O2:=Lib.hid T6;have hc6:w5.cell? ⟨w1.heap.size+1+1,0,none⟩=_:=T5.r6.cell;have hf6:w5.frozen? ⟨w1.heap.size+1+1,0,none⟩=_:=T5.r6.frozen;clear o1 o2 T5 T6))
  have O3:=O2.out
  rw [hil] at O3
  have T7:=O3.1.next (pre.length+1)
  have K7:=((KeepsOthers.of_grownBy (grown_below H3.out) (fun j o e=>nomatch e)).trans QQ.out.2.2).trans (O3.2.trans (KeepsOthers.setCell _ ⟨w1.heap.size+2,0,none⟩ (.int .i64 ((pre.length+1:Nat):Int))))
  exact ⟨K7.from _,HT.out.kp T7,_,_,by rw [E1.out,E2.out,E3.out];exact T7⟩
 case done=>
  rintro D xs W hD hxs ⟨vb,vi,T⟩ hK
  have hbs:xs.map (fun x=>dV (bZ l x.1))=iF l:=by
   unfold iF uo bu
   rw [<-hxs,List.map_map]
   rfl
  have hxn:xs.length=bu l:=by have:=congrArg List.length hxs;rwa [List.length_map,List.length_range] at this
  rw [hbs,hxn] at T
  have hpn:0 < bu l:=by unfold bu;omega
  have hfl:=zQ A'.out.ok xs
  rw [hbs,hxn] at hfl
  have hnp:bu l<=8192:=by unfold bu;omega
  have hil:=yG (iF l)
  rw [show (iF l).length=bu l from tC _ _] at hil
  have hbl:0 < (iF l).flatten.length:=by
   have h0:bZ l 0∈(List.range (bu l)).map (bZ l):=List.mem_map.2 ⟨0,List.mem_range.2 hpn,rfl⟩
   have h1:dV (bZ l 0)∈iF l:=List.mem_map.2 ⟨0,List.mem_range.2 hpn,rfl⟩
   have h2:=MH (bZ l 0)
   have h3:∀{L:List (List UInt8)} {x:List UInt8},x∈L->x.length<=L.flatten.length:=fun {L x} hx=>by
    induction L with
    |nil=>cases hx
    |cons y L ih=>
     rw [List.flatten_cons,List.length_append]
     rcases List.mem_cons.1 hx with rfl|hx
     ·omega
     ·have:=ih hx;omega
   have:=h3 h1
   omega
  obtain ⟨gb,abe,rfl,_⟩:=T.b.form hbl
  obtain ⟨gi,JQ,rfl,_⟩:=T.i.form (by omega)
  have htab:dM l=(iF l).flatten++encB (bu l) 2++gq (iF l)++encB (iF l).flatten.length 4++rG:=rfl
  clear hbs
  generalize (iF l).flatten=fb at*
  generalize gq (iF l)=ix at*
  generalize bu l=np at*
  have abf:=Lib.hid htab
  clear htab
  have HT:=Lib.hid T
  have TD:=Lib.hid (T.kept (W':=W.drew) (row:=none) ⟨rfl,rfl,rfl,Nat.le_refl _,fun _ _ _=>rfl⟩ (fun r e=>nomatch e))
  have c4:=T.r4.cell
  have c5:=T.r5.cell
  have c6:W.cell? ⟨w1.heap.size+1+1,0,none⟩=_:=T.r6.cell
  have hix:ix.length<=32768:=by omega
  have hix0:0 < ix.length:=by omega
  have hfb:fb.length<=300000000:=by omega
  have HIL:=Lib.hid hil
  clear T hil hfl
  gi_wp2
  refine wpIn_mono (Q:=fun e a w=>match e with| .normal=>∃u47 u48 u49 u50 u51 u52 g3 cap3,a={tmps:= #[.slice (some ad) l.length c,undef, .pointer (some ⟨W0.heap.size,0,none⟩), .pointer (some ⟨W0.heap.size+1,0,none⟩), .pointer (some ⟨w1.heap.size,0,none⟩), .pointer (some ⟨w1.heap.size+1,0,none⟩), .pointer (some ⟨w1.heap.size+1+1,0,none⟩),undef,undef,undef, .int .i64 fb.length, .slice (some ad) l.length c, .int .i64 l.length, .bool false, .bool false, .slice (some ad) l.length c, .int .i64 l.length, .bool false, .bool false, .bool false, .slice (some ad) l.length c, .bool true, .bool false, .bool false, .slice (some ad) l.length c, .func (.func 177) #[] #[.pointer (some ⟨w1.heap.size+1+1+1,0,none⟩), .pointer (some ⟨w1.heap.size+1+1+1+1,0,none⟩)],undef,undef,undef,undef,undef,undef,undef,undef,undef,undef,undef,undef,undef,undef,undef,undef,undef,undef,undef, .slice (some ⟨gb,0,none⟩) fb.length abe, .int .i64 fb.length,u47,u48,u49,u50,u51,u52,undef,undef,undef,undef,undef],defers:=[{target:= .collected D,args:= #[]}]}/\TB W0 w1.heap.size (.slice (some ad) l.length c) np (fb++encB np 2++ix) ix (.slice (some ⟨g3,0,none⟩) (fb.length+2+ix.length) cap3) (.slice (some ⟨gi,0,none⟩) ix.length JQ) w/\w.heap[D]?=some (.deferred (some []))|_=>False) (wpIn_wide.2 ?reg) ?rest
  case rest=>
   rintro e a w hq
   cases e<;>first|exact hq.elim|skip
   obtain ⟨u47,u48,u49,u50,u51,u52,g3,cap3,rfl,T,hD2⟩:=hq
   have HT:=Lib.hid T
   have HK:=Lib.hid hD2
   have c4:=T.r4.cell
   have c2:=T.r2.cell
   have hlen:(fb++encB np 2++ix).length=fb.length+2+ix.length:=by rw [List.length_append,List.length_append,aB]
   have HL:=Lib.hid hlen
   have hs4:(⟨#[109,97,114,105]⟩:ByteArray).size=4:=rfl
   have S6:=Lib.hid (show fb.length+2+ix.length+4+(⟨#[109,97,114,105]⟩:ByteArray).size<=maxLen/\fb.length+2+ix.length+4+(⟨#[109,97,114,105]⟩:ByteArray).size<=140737488355328/\0 < fb.length+2+ix.length+4+(⟨#[109,97,114,105]⟩:ByteArray).size from by rw [hs4];unfold maxLen;omega)
   have DD:=Lib.hid (show D < w.heap.size/\∀g,w.heap.size<=g->D≠g from ⟨(Array.getElem?_eq_some_iff.1 HK.out).1,fun g h=>by have:=(Array.getElem?_eq_some_iff.1 HK.out).1;omega⟩)
   have P8:=Lib.hid (show∀r,w.heap.size<=r->W0.heap.size+2<=r/\(r < w1.heap.size\/w1.heap.size+4 < r)/\(Value.slice (some ⟨g3,0,none⟩) (fb.length+2+ix.length) cap3).ownBlock≠some r/\(Value.slice (some ⟨gi,0,none⟩) ix.length JQ).ownBlock≠some r from fun r hr=>by
    have h1:=T.lt
    have h2:=T.lo
    have h3:g3 < w.heap.size:=(T.b.lt g3 rfl).2
    have h4:gi < w.heap.size:=(T.i.lt gi rfl).2
    exact ⟨by omega,by omega,fun e=>absurd (show g3=r from Option.some.inj e) (by omega),fun e=>absurd (show gi=r from Option.some.inj e) (by omega)⟩)
   clear hs4
   have HWr:=Lib.hid (show IntKind.u64.wrap (fb.length:Int)=fb.length by rw [IntKind.wrap_u64];omega)
   clear hlen T hD2
   gi_wp2_with (first
    |(refine ⟨trivial, ?_⟩;gi_at_call 66;refine (callsIn_wide.2 (zM (by have:=JP HT.out.b;rw [HL.out] at this;exact this) (uF _) (by omega) fb.length 4 (by omega) (by omega))).mono ?_;rintro e w5 ⟨v5,rfl,o1,o2⟩;obtain ⟨g5,cap5,rfl,hg5,_⟩:=o1.form (by omega);have G5:=Lib.hid hg5;have O1:=Lib.hid o1;have O2:=Lib.hid o2;clear o1 o2 hg5)
    |(gi_at_builtin;refine uf _ rfl _ _ 23 9 rfl _ 5 i0 Tryz.underlying23 Tryz.underlying9 hi hz0 hz1 hz2 _ _ _ rfl O1.out ⟨#[109,97,114,105]⟩ rfl S6.out.1 S6.out.2.1 O2.out.size ?_;intro v6 w6 q1 q2;obtain ⟨g6,cap6,rfl,hg6,_⟩:=q1.form S6.out.2.2;have T6:=Lib.hid ((HT.out.below O2.out).kept q2 (fun r e=>P8.out r (by cases e;exact G5.out)));have c62:=T6.out.r2.cell;have f62:=T6.out.r2.frozen;have c63:=T6.out.r3.cell;have f63:=T6.out.r3.frozen;have D6:=Lib.hid (q2.block D (Nat.lt_of_lt_of_le DD.out.1 O2.out.size) (fun e=>by have:=DD.out.2 _ G5.out;cases e;exact this rfl));have Q1:=Lib.hid q1;have G6:=Lib.hid hg6;clear q1 q2 hg6))
   have B2:=(T6.out.r2.set (.slice (some ⟨g6,0,none⟩) (fb.length+2+ix.length+4+4) cap6)).other (B':=W0.heap.size+1) (by omega) (.int .i64 0)
   have B3:=(T6.out.r3.other (B':=W0.heap.size) (by omega) (.slice (some ⟨g6,0,none⟩) (fb.length+2+ix.length+4+4) cap6)).set (.int .i64 0)
   have hn2:=Q1.out
   have e1:=T6.out.r2.not_row (by decide) hn2
   have r7:=hn2.kept (grownBy_setCell' w6 W0.heap.size (.slice (some ⟨g6,0,none⟩) (fb.length+2+ix.length+4+4) cap6)) (.inr (fun q=>e1 q.symm))
   have e2:=(T6.out.r3.other (B':=W0.heap.size) (by omega) (.slice (some ⟨g6,0,none⟩) (fb.length+2+ix.length+4+4) cap6)).not_row (by decide) r7
   have r8:=r7.kept (grownBy_setCell' _ (W0.heap.size+1) (.int .i64 0)) (.inr (fun q=>e2 q.symm))
   have bl:=(T6.out.bel.setCell (p:=⟨W0.heap.size,0,none⟩) (Nat.le_refl _) (.slice (some ⟨g6,0,none⟩) (fb.length+2+ix.length+4+4) cap6)).setCell (p:=⟨W0.heap.size+1,0,none⟩) (Nat.le_succ _) (.int .i64 0)
   have hKf:((w6.setCell ⟨W0.heap.size,0,none⟩ (.slice (some ⟨g6,0,none⟩) (fb.length+2+ix.length+4+4) cap6)).setCell ⟨W0.heap.size+1,0,none⟩ (.int .i64 0)).heap[D]?=some (.deferred (some [])):=by
    have hd:w6.heap[D]?=some (.deferred (some [])):=(D6.out.trans (O2.out.block D DD.out.1)).trans HK.out
    have n2:D≠W0.heap.size:=fun e=>by subst e;have:=(show w6.heap[W0.heap.size]?=_ from T6.out.r2).symm.trans hd;cases this
    have n3:D≠W0.heap.size+1:=fun e=>by subst e;have:=(show w6.heap[W0.heap.size+1]?=_ from T6.out.r3).symm.trans hd;cases this
    rw [Below.heap_setCell _ _ _ D n3,Below.heap_setCell _ _ _ D n2]
    exact hd
   have hD0:W0.heap.size<=D:=by simp at hD;omega
   refine ⟨by simp, .inl ⟨_,_,rfl,run_takeDeferred hKf, ?_⟩⟩
   have cB:∀{B:Nat} {t:TypeId} {v:Value},Boxed ((w6.setCell ⟨W0.heap.size,0,none⟩ (.slice (some ⟨g6,0,none⟩) (fb.length+2+ix.length+4+4) cap6)).setCell ⟨W0.heap.size+1,0,none⟩ (.int .i64 0)) B t v->∀o,(World.putObj ((w6.setCell ⟨W0.heap.size,0,none⟩ (.slice (some ⟨g6,0,none⟩) (fb.length+2+ix.length+4+4) cap6)).setCell ⟨W0.heap.size+1,0,none⟩ (.int .i64 0)) D o).cell? ⟨B,0,none⟩=some v:=fun {B t v} hb o=>(hb.kept (grownBy_putObj' _ D o) (fun e=>by have e:=Option.some.inj e;subst e;have:=(show _=_ from hb).symm.trans hKf;cases this)).cell
   have c2:=cB B2
   have c3:=cB B3
   have hbl:=fun o'=>bl.trans (belowK_b (w:=W0) (Nat.le_refl _) _ D _ o' hD0 hKf rfl rfl)
   have r9:=fun o'=>ownsRow_putObj (o:= .deferred (some [])) r8 o' hKf rfl
   have hsz:fb.length+2+ix.length+4+(⟨#[109,97,114,105]⟩:ByteArray).size=(dM l).length:=by rw [abf.out];simp only [List.length_append,aB];rfl
   have hcs:(fb++encB np 2++ix).map bv++(encB fb.length 4).map bv++Lib.strCells ⟨#[109,97,114,105]⟩=(dM l).map bv:=by rw [abf.out];simp only [List.map_append];rfl
   rw [hsz,hcs] at r9
   refine ⟨_, ?res,_,rfl,own_base (r9 _) (by have:=HT.out.bel.size;exact this),hbl _⟩
   case res=>
    have hres:Tryz.f125.results= #[.cell 2 23, .cell 3 28]:=by kernel_rfl
    simp only [results,hres]
    go_simp
    exact hsz
  have hS:∀w',(∃b i vb,TB W0 w1.heap.size (.slice (some ad) l.length c) np b i vb (.slice (some ⟨gi,0,none⟩) ix.length JQ) w')->w'.cell? ⟨w1.heap.size+1,0,none⟩=some (.slice (some ⟨gi,0,none⟩) ix.length JQ)/\w'.cell? ⟨w1.heap.size+1+1,0,none⟩=some (.int .i64 np):=fun w' ⟨b,i,vb,T⟩=>⟨T.r5.cell,T.r6.cell⟩
  have hS:=Lib.hid hS
  have p1:fb.length<=70368744177600:=by omega
  have p2:np < 18446744073709551616:=by omega
  have HWr:=Lib.hid (show IntKind.u64.wrap (np:Int)=np by unfold IntKind.wrap;simp [IntKind.bits,IntKind.signed];omega)
  have p3:0 < fb.length+2:=by omega
  have p4:(ix.map bv).length=ix.length*1:=by rw [List.length_map,Nat.mul_one]
  have p5:0 < ix.length:=by omega
  have p6:fb.length+2+ix.length<=maxLen:=by unfold maxLen;omega
  have p7:(fb.length+2+ix.length)*1<=140737488355328:=by omega
  have p8:∀r,W.heap.size<=r->W0.heap.size+2<=r/\(r < w1.heap.size\/w1.heap.size+4 < r)/\(Value.slice (some ⟨gb,0,none⟩) fb.length abe).ownBlock≠some r/\(Value.slice (some ⟨gi,0,none⟩) ix.length JQ).ownBlock≠some r:=fun r hr=>by
   have h1:=HT.out.lt
   have h2:=HT.out.lo
   have h3:gb < W.heap.size:=(HT.out.b.lt gb rfl).2
   have h4:gi < W.heap.size:=(HT.out.i.lt gi rfl).2
   refine ⟨by omega,by omega,fun e=> ?_,fun e=> ?_⟩
   ·exact absurd (show gb=r from Option.some.inj e) (by omega)
   ·exact absurd (show gi=r from Option.some.inj e) (by omega)
  have DD:=Lib.hid (show D < W.drew.heap.size/\D≠w1.heap.size/\∀g2,W.drew.heap.size<=g2->D≠g2 from by
   have h1:D < W.heap.size:=(Array.getElem?_eq_some_iff.1 hK).1
   have h2:W.drew.heap.size=W.heap.size:=rfl
   refine ⟨h1,fun e=> ?_,fun g h=>by omega⟩
   subst e
   have:=(show W.heap[w1.heap.size]?=_ from HT.out.r4).symm.trans hK
   cases this)
  have HK:=Lib.hid hK
  have PP2:=Lib.hid (show fb.length+2+ix.length=(fb++encB np 2++ix).length by rw [List.length_append,List.length_append,aB])
  have P9:=Lib.hid (show∀g3,(W.heap.size<=g3\/W.drew.heap.size<=g3)->∀{n cap:Nat} (j:Nat),(Value.slice (some ⟨g3,0,none⟩) n cap).ownBlock=some j->(Value.slice (some ⟨gi,0,none⟩) ix.length JQ).ownBlock≠some j from fun g3 h {n cap} j e e2=>by
   have h1:g3=j:=Option.some.inj e
   have h2:gi=j:=Option.some.inj e2
   have h4:gi < W.heap.size:=(HT.out.i.lt gi rfl).2
   have h5:W.drew.heap.size=W.heap.size:=rfl
   omega)
  have PP:=Lib.hid (And.intro p1 (And.intro p2 (And.intro p3 (And.intro p4 (And.intro p5 (And.intro p6 (And.intro p7 p8)))))))
  clear p1 p2 p3 p4 p5 p6 p7 p8
  have c40:=HT.out.r4.cell
  have c50:=HT.out.r5.cell
  have c60:=HT.out.r6.cell
  go_region_law
   (first
    |(
      refine step_append_lies _ rfl _ _ 23 rfl _ 5 i0 (.int .u8 0) 1 1 Tryz.underlying23 hi hz0 hz1 hz2 rfl (by decide) _ _ _ rfl O1.out ⟨gi,0,none⟩ _ _ _ rfl PP.out.2.2.2.1 (fun j u hu=>T2.out.i.cells rfl j u hu) (uF _) PP.out.2.2.2.2.1 PP.out.2.2.2.2.2.1 PP.out.2.2.2.2.2.2.1 O2.out.size _ rfl ?_
      intro g3 cap3 w3 q1 q2 q3 q4
      have T3:=Lib.hid (T2.out.kept q2 (fun r e=>PP.out.2.2.2.2.2.2.2 r (by cases e;exact G2.out)))
      have c53:=T3.out.r5.cell
      have c63:=T3.out.r6.cell
      have c43:=T3.out.r4.cell
      have f43:=T3.out.r4.frozen
      rw [<-List.map_append,<-List.map_append] at q1
      have T4:=Lib.hid (T3.out.acj PP2.out (own_base q1 HT.out.bel.size) (P9.out g3 (by rcases q3 with e|e;exact .inl (Nat.le_trans G2.out (Nat.le_of_eq (Option.some.inj e)));exact .inr (Nat.le_trans O2.out.size (Nat.le_of_eq e.symm)))))
      have D4:=Lib.hid (show (w3.setCell ⟨w1.heap.size,0,none⟩ (.slice (some ⟨g3,0,none⟩) (fb.length+2+ix.length) cap3)).heap[D]?=some (.deferred (some [])) from by
       rw [Below.heap_setCell _ _ _ D DD.out.2.1,q2.block D (Nat.lt_of_lt_of_le DD.out.1 O2.out.size) (fun e=>DD.out.2.2 g2 G2.out (Option.some.inj e)),O2.out.block D DD.out.1]
       exact HK.out)
      clear q1 q2 q3 q4)
    |(
      go_simp
      go_at_call 66
      rw [HWr.out]
      refine (zM (JP TD.out.b) (uF _) PP.out.1 np 2 PP.out.2.1 (by decide)).mono ?_
      rintro e w2 ⟨v2,rfl,o1,o2⟩
      obtain ⟨g2,cap2,rfl,hg2,_⟩:=o1.form PP.out.2.2.1
      have T2:=Lib.hid (TD.out.below o2)
      have c42:=T2.out.r4.cell
      have c52:=T2.out.r5.cell
      have c62:=T2.out.r6.cell
      have O1:=Lib.hid o1
      have O2:=Lib.hid o2
      have G2:=Lib.hid hg2
      clear o1 o2 hg2))
  all_goals exact ⟨_,_,_,_,_,_,_,_,rfl,T4.out,D4.out⟩
 case stop=>exact fun _ _ _ _ _ _ h _=>h.elim
end
end Go.Proofs.YtbnkdnlfdofepaaGreat
namespace Go.Proofs.YtbnkdnlfdofepaaGreat
namespace Am
open Go.RowKit
set_option maxRecDepth 100000
def Xa (args:List AV) (h:Hp MD) (r:AV) (h':Hp MD):Prop:=∃(v:AV) (l:List EM) (F:Nat->Prop),args=[v]/\aN h v l F/\jX l/\r= .tup [.slice 1 h.n 0 (dM l).length none, .int .i64 0]/\h'=h.push (.rw ((dM l).map ub))
theorem abg:jD Tryz.prog OD 125 (qC Xa):=by
 refine Su (by kernel_rfl) fun {args h r h'} hR {w0 w m φ args'} hs hv=> ?_
 obtain ⟨v,l,F,rfl,en,ok,rfl,rfl⟩:=hR
 simp only [VRs] at hv
 obtain ⟨v',_,rfl,hv,rfl⟩:=hv
 obtain ⟨g,o,cap,rfl⟩:∃g o cap,v= .slice 3 g o l.length cap:=by
  obtain ⟨tri,h1,_⟩:=en.out
  have hp:=ok.pos
  cases v<;>first|exact h1.elim|skip
  ·obtain ⟨rfl,rfl,_⟩:=h1;exact ⟨_,_,_,rfl⟩
  ·obtain ⟨h0,_⟩:=h1;omega
  ·obtain ⟨h0,_⟩:=h1;omega
 obtain ⟨ad,c,ev⟩:∃ad c,v'= .slice (some ad) l.length c:=by
  have hv':=hv
  simp only [VR] at hv'
  obtain ⟨p,ad,c,_,q,_⟩:=hv'
  exact ⟨ad,c,q⟩
 have A:WX w v' l:=⟨ok,m,h.frz,g,o,cap,ad,c,F,InR.of hs,en.frz,hv,ev⟩
 refine (tbuild_w A).mono fun e w' ⟨v2,he,h1,h2⟩=> ?_
 subst he
 have hpos:0 < (dM l).length:=by simp only [dM,List.length_append,rG,List.length_cons];omega
 rcases h1.2 with ⟨_,hz⟩|⟨b,cp,cur,rfl,hb,hheap,hnc,hcm,hcs,htk⟩
 ·omega
 have hgw:=lt_of_block hheap
 refine ⟨m.set h.n ⟨b,0,cp,1⟩,φ.set h.n (fun k=>k=b),_,fun k hk=>by simp [Mu.set];omega,by show h.n<=h.n+1;omega,hs.new h2 ⟨cur,5,(0,0),hheap, .inl rfl,by show cp<=cur.size;omega, ?_,fun j u hj=> ?_,fun _=>Iff.rfl,fun _=>rfl⟩ (fun _ k hk=>by subst hk;exact hb), ?_,rfl⟩
 ·rw [List.length_map]
  show 0+_<=cp
  omega
 ·rw [List.getElem?_map] at hj
  obtain ⟨x,hx,rfl⟩:=Option.map_eq_some_iff.1 hj
  refine ⟨bv x, ?_,by simp [ub,bv,VR],rfl⟩
  have hxl:=(List.getElem?_eq_some_iff.1 hx).1
  have:(cur.toList.take ((dM l).length*1))[j]?=some (bv x):=by rw [htk,List.getElem?_map,hx];rfl
  rw [Nat.mul_one,List.getElem?_take_of_lt hxl] at this
  show cur[0+j]?=some (bv x)
  rw [Nat.zero_add]
  simpa using this
 ·simp only [VR,VRs]
  refine ⟨_,rfl,_,_,rfl,⟨_,⟨b,0,none⟩,cp,Mu.set_self _ _ _,rfl,hnc,hcm,fun _=>rfl,⟨Nat.zero_lt_one,rfl⟩,by show 0+0+cp*1=cp;omega⟩,_,_,rfl,rfl,rfl⟩
theorem uN:∀{a b:List UInt8},a.map ub=b.map ub->a=b
 |[],[],_=>rfl
 |x::a,y::b,h=>by
  simp only [List.map_cons,List.cons.injEq] at h
  have h1:(x.toNat:Int)=y.toNat:=by have:=h.1;simp only [ub,AV.int.injEq,true_and] at this;exact this
  rw [uN h.2,UInt8.toNat.inj (Int.ofNat.inj h1)]
 |[],_::_,h=>by cases h
 |_::_,[],h=>by cases h
theorem RS.uniq {X:Type} {h:Hp X} {z n n':Nat} {v:AV} {c c':List AV} (a:RS h z v n c) (b:RS h z v n' c'):n=n'/\c=c':=by
 cases v<;>first|exact a.elim|skip
 ·obtain ⟨_,rfl,_,l,h4,_,rfl⟩:=a
  obtain ⟨_,rfl,_,l',h4',_,rfl⟩:=b
  rw [h4] at h4'
  cases h4'
  exact ⟨rfl,rfl⟩
 ·obtain ⟨rfl,rfl⟩:=a;obtain ⟨rfl,rfl⟩:=b;exact ⟨rfl,rfl⟩
 ·obtain ⟨rfl,rfl⟩:=a;obtain ⟨rfl,rfl⟩:=b;exact ⟨rfl,rfl⟩
theorem Tu:∀{s t:List T3},s.flatMap f3=t.flatMap f3->s=t
 |[],[],_=>rfl
 |x::s,y::t,h=>by
  obtain ⟨a,b,c⟩:=x
  obtain ⟨a',b',c'⟩:=y
  simp only [List.flatMap_cons,f3,List.cons_append,List.nil_append,List.cons.injEq,AV.bool.injEq] at h
  obtain ⟨rfl,rfl,rfl,h⟩:=h
  rw [Tu h]
 |[],(_,_,_)::_,h=>by simp [f3] at h
 |(_,_,_)::_,[],h=>by simp [f3] at h
theorem eH.uniq {X:Type} {h:Hp X} {q:T3} {e e':EM} (a:eH h q e) (b:eH h q e'):e=e':=by
 obtain ⟨k,v,g⟩:=e
 obtain ⟨k',v',g'⟩:=e'
 have h1:=uN (a.key.uniq b.key).2
 have h2:=uN (a.val.uniq b.val).2
 have h3:=a.gone.symm.trans b.gone
 simp only at h1 h2 h3
 rw [h1,h2,h3]
theorem aN.uniq {X:Type} {h:Hp X} {v:AV} {l l':List EM} {F F':Nat->Prop} (a:aN h v l F) (b:aN h v l' F'):l=l':=by
 obtain ⟨t,a1,a2,a3,_⟩:=a.out
 obtain ⟨t',b1,b2,b3,_⟩:=b.out
 obtain ⟨h1,h2⟩:=a1.uniq b1
 have:=Tu h2
 subst this
 apply List.ext_getElem h1
 intro i hi hi'
 exact (a3 i (t[i]'(by omega)) _ (List.getElem?_eq_getElem (by omega)) (List.getElem?_eq_getElem hi)).uniq (b3 i _ _ (List.getElem?_eq_getElem (by omega)) (List.getElem?_eq_getElem hi'))
theorem Di {E:Nat->Option (Ent MD)} (hE:∀f e,E f=some e->e.plain) (hf:E 125=some (.nat (qC Xa))) {h:Hp MD} {v:AV} {l:List EM} {F:Nat->Prop} (en:aN h v l F) (ok:jX l):
  WF (lim E) 125 [v] h fun r h'=>r= .tup [.slice 1 h.n 0 (dM l).length none, .int .i64 0]/\h'=h.push (.rw ((dM l).map ub)):=by
 refine X9 hE hf ⟨v,l,F,rfl,en,ok,rfl,rfl⟩ fun r h' ⟨v',l',F',e1,e2,e3,e4,e5⟩=> ?_
 simp only [List.cons.injEq,and_true] at e1
 subst e1
 rw [en.uniq e2]
 exact ⟨e4,e5⟩
def jL:BF:=⟨82,[0,2,3,5,6,7,8,9,10,14,29,54,59,71],(.seq (.reg [mvS 1 (.mv (.const .ae))]) (.seq (.seq (.reg [ceS 12 0,lnE 13 12,mvS 9 (.bin .lss .no (eV 13) (.const (.int .i64 8)))]) (.cond (sL 9) (.seq (.reg [mvS 1 (.mv (.const .ae))]) .ret) .skip)) (.seq (.reg [ceS 16 0,ceS 17 0,lnE 18 17,mvE 19 (.bin .sub .no (eV 18) (.const (.int .i64 8))),mvE 20 (.sl 1 (eV 16) (some (eV 19)) none none),clE 21 115 [eV 20,(.const (.int .i64 4))],ceE 15 21,exE 22 0 15,exE 23 1 15,csE 2 22,ceE 4 23]) (.seq (.seq (.reg [ceS 24 2,ceS 25 0,lnE 26 25,mvE 27 (.bin .sub .no (eV 26) (.const (.int .i64 8))),mvE 28 (.conv .u64 (eV 27)),mvS 10 (.bin .gtr .no (eV 24) (eV 28))]) (.cond (sL 10) (.seq (.reg [mvS 1 (.mv (.const .ae))]) .ret) .skip)) (.seq (.iC [(ceS 30 0,[]),(ceS 31 2,[]),(ceS 32 0,[]),(lnE 33 32,[]),(mvE 34 (.bin .sub .no (eV 33) (.const (.int .i64 8))),[]),(mvE 35 (.sl 1 (eV 30) (some (eV 31)) (some (eV 34)) none),[]),(ceS 36 0,[]),(ceS 37 2,[]),(mvE 38 (.sl 1 (eV 36) none (some (eV 37)) none),[]),(csE 3 35,[]),(csE 4 38,[])]) (.seq (.reg [ceS 40 3,clE 41 115 [eV 40,(.const (.int .i64 2))],ceE 39 41,exE 42 0 39,exE 43 1 39,csE 5 42,csE 6 43]) (.seq (.seq (.reg [ceS 44 6,mvE 45 (.jd (eV 44)),ceE 46 45, .mk (some ((eV 46),false)) (.env 47) (.mov (.mv (sL 3))), .mk (some ((eV 46),false)) (.env 48) (.mov (.ah (eV 47))), .mk (some ((eV 46),false)) (.env 49) (.mov (.conv .u64 (eV 48))), .mk (some ((eV 46),false)) (.env 50) (.mov (.mv (sL 5))), .mk (some ((eV 46),false)) (.env 51) (.mov (.bin .mul .no (.const (.int .u64 4)) (eV 50))), .mk (some ((eV 46),false)) (.env 52) (.mov (.bin .add .no (.const (.int .u64 2)) (eV 51))), .mk (some ((eV 46),false)) (.env 53) (.mov (.bin .neq .no (eV 49) (eV 52))),mvS 11 (.pick (eV 46) (.const (.bool true)) (eV 53))]) (.cond (sL 11) (.seq (.reg [mvS 1 (.mv (.const .ae))]) .ret) .skip)) (.seq (.reg [mvS 7 (.mv (.const .ae))]) (.seq (.seq (.reg [ceS 55 3,mvE 56 (.sl 1 (eV 55) (some (.const (.int .i64 2))) none none),csE 3 56]) (.block 0 (.loop (.seq (.seq (.reg [ceS 57 3,lnE 58 57,mvS 12 (.bin .gtr .no (eV 58) (.const (.int .i64 0)))]) (.cond (sL 12) .skip (.exit 0))) (.seq (.block 1 (.seq (.reg [ceS 63 3,clE 64 115 [eV 63,(.const (.int .i64 4))],ceE 62 64,exE 65 0 62,exE 66 1 62,csE 8 65,ceE 11 66]) (.seq (.seq (.reg [ceS 67 8,ceS 68 4,lnE 69 68,mvE 70 (.conv .u64 (eV 69)),mvS 13 (.bin .gtr .no (eV 67) (eV 70))]) (.cond (sL 13) (.seq (.reg [mvS 1 (.mv (.const .ae))]) .ret) .skip)) (.seq (.reg [ceS 72 7,ceS 73 4,ceS 74 8,mvE 75 (.sl 1 (eV 73) none (some (eV 74)) none),efE 76 (.aF 1 1 [.ae] [(0,1,(eV 75))]),efE 77 (.append 1 24 (eV 72) (eV 76)),csE 7 77]) (.reg [ceS 78 4,ceS 79 8,mvE 80 (.sl 1 (eV 78) (some (eV 79)) none none),csE 4 80]))))) (.reg [ceS 60 3,mvE 61 (.sl 1 (eV 60) (some (.const (.int .i64 4))) none none),csE 3 61])))))) (.seq (.reg [ceS 81 7,csE 1 81]) .ret)))))))))),[.slot (sL 1)]⟩
structure Parts (h0 h:Hp MD) (v out:AV) (bs:List (List UInt8)):Prop where
 out:∃cells,OS h 1 out bs.length cells/\(∀k,blk out k->h0.n<=k)/\∀(i:Nat) (r:List UInt8),bs[i]?=some r->∃c,cells[i]?=some c/\RS h 1 c r.length (r.map ub)/\∀k,blk c k->blk v k
section
variable {E:Nat->Option (Ent MD)}
theorem Xb {X:Type} {h:Hp X} {e:En} {t:List AV} {q:Eq} {x y:Od} {a b:Nat} (hx:x.ev e t= .int .u64 (a:Int)) (hy:y.ev e t= .int .u64 (b:Int)) (hc:a*b < 18446744073709551616):(Mv.bin .mul q x y).ev e t h=some (.int .u64 ((a*b:Nat):Int)):=by
 have e1:wr .u64 ((a:Int)*b)=((a*b:Nat):Int):=by
  have e3:((a:Int)*b) % 2^64=((a*b:Nat):Int):=by rw [<-Int.natCast_mul];omega
  simp only [wr,IntKind.wrap,IntKind.signed,IntKind.bits,e3]
  simp
 simp only [Mv.ev,hx,hy,Am.bin,AV.onInt,isShift,Bool.false_or,intOp]
 simp [e1]
theorem Xc {X:Type} {h:Hp X} {e:En} {t:List AV} {q:Eq} {x y:Od} {a b:Nat} (hx:x.ev e t= .int .u64 (a:Int)) (hy:y.ev e t= .int .u64 (b:Int)) (hc:a+b < 18446744073709551616):(Mv.bin .add q x y).ev e t h=some (.int .u64 ((a+b:Nat):Int)):=by
 have e1:wr .u64 ((a:Int)+b)=((a+b:Nat):Int):=by
  have e3:((a:Int)+b) % 2^64=((a+b:Nat):Int):=by omega
  simp only [wr,IntKind.wrap,IntKind.signed,IntKind.bits,e3]
  simp
 simp only [Mv.ev,hx,hy,Am.bin,AV.onInt,isShift,Bool.false_or,intOp]
 simp [e1]
theorem Tv:∀{bs:List (List UInt8)} {j:Nat} {b:List UInt8},bs[j]?=some b->(gq bs).drop (4*j)=encB b.length 4++(gq bs).drop (4*(j+1))
 |x::bs,0,b,h=>by
  simp only [List.getElem?_cons_zero,Option.some.injEq] at h
  subst h
  have:(encB x.length 4++gq bs).drop (4*1)=gq bs:=List.drop_left' (aB _ _)
  simp only [gq,List.flatMap_cons] at this ⊢
  rw [Nat.zero_add,this,Nat.mul_zero,List.drop_zero]
 |x::bs,j+1,b,h=>by
  have ih:=Tv (bs:=bs) (j:=j) (b:=b) (by simpa using h)
  have hd:∀i,(gq (x::bs)).drop (4*(i+1))=(gq bs).drop (4*i):=fun i=>by
   rw [show 4*(i+1)=4+4*i by omega,<-List.drop_drop]
   exact congrArg (List.drop (4*i)) (List.drop_left' (aB _ _))
  rw [hd,hd,ih]
 |[],_,_,h=>by simp at h
theorem Xd {bs:List (List UInt8)} {j:Nat} {b:List UInt8} (h:bs[j]?=some b):(bs.drop j).flatten=b++(bs.drop (j+1)).flatten:=by
 rw [List.drop_eq_getElem_cons (List.getElem?_eq_some_iff.1 h).1,List.flatten_cons,(List.getElem?_eq_some_iff.1 h).2]
theorem Tz {l:List EM} (ok:jX l):∀b∈iF l,b.length<=34848:=fun b hb=>by
 obtain ⟨i,_,rfl⟩:=List.mem_map.1 hb
 have:=ER (K:=4350) (l:=l) (fun e he=>by have:=kQ (ok.ok e he);omega) i
 omega
set_option maxHeartbeats 8000000 in
theorem OG (hE:∀f e,E f=some e->e.plain) (T:KaT E) (hf:E 155=some (.bc jL)) {h:Hp MD} {v:AV} {l:List EM} (hr:RS h 1 v (dM l).length ((dM l).map ub)) (ok:jX l):
  WF (lim E) 155 [v] h fun r h'=>Keep NoB h h'/\Parts h h' v r (iF l):=by
 refine aC hE hf rfl ?_
 simp only [jL,mvE,mvS,clE,efE,ceS,ceE,csE,faE,nlE,ldE,lnE,exE,eV,sL,kI,List.map,getS]
 have hmx:(maxLen:Nat)=9223372036854775807:=rfl
 have hbl:=Tz ok
 have hbn:(iF l).length=bu l:=tC _ _
 have hnp:bu l<=8192:=by have:=ok.most;unfold bu;omega
 have hil:=yG (iF l)
 have hDl:(iF l).flatten.length<=34848*bu l:=by
  have:=ES (K:=4350) (l:=l) (fun e he=>by have:=kQ (ok.ok e he);omega) (bu l)
  unfold iF
  omega
 have hL:dM l=(iF l).flatten++((encB (bu l) 2++gq (iF l))++(encB (iF l).flatten.length 4++rG)):=by simp only [dM,List.append_assoc]
 generalize dM l=L at*
 have hpl:∀j,j<=(iF l).length->((iF l).drop j).flatten.length<=(iF l).flatten.length:=fun j hj=>by
  have:=congrArg List.length (congrArg List.flatten (List.take_append_drop j (iF l)))
  rw [List.flatten_append,List.length_append] at this
  omega
 have hLl:L.length=(iF l).flatten.length+(2+4*bu l)+8:=by
  rw [hL];simp only [List.length_append,aB,hil,hbn,rG,List.length_cons,List.length_nil];omega
 have hpos:0 < bu l:=by have:=ok.pos;unfold bu;omega
 generalize iF l=bs at*
 generalize bu l=np at*
 obtain ⟨fv,f1,f2,f3,f4⟩:=hr.bytes (lo:=L.length - 8) (hi:=L.length) (by omega) (Nat.le_refl _)
 have ef:(L.drop (L.length - 8)).take (L.length - (L.length - 8))=encB bs.flatten.length 4++rG:=by
  have e8:L.length - 8=(bs.flatten++(encB np 2++gq bs)).length:=by rw [hLl];simp only [List.length_append,aB,hil,hbn];omega
  rw [List.take_of_length_le (by rw [List.length_drop];omega),e8,hL,<-List.append_assoc bs.flatten (encB np 2++gq bs) (encB bs.flatten.length 4++rG),List.drop_left' rfl]
 rw [ef] at f1
 have hsub:(L.length:Int) - 8=((L.length - 8:Nat):Int):=by omega
 have n1:¬((L.length:Int) < 8):=by omega
 repeat first|refine ZA ?_|refine BV (hr.ah (by rfl)) ?_|refine BV (f4 (by rfl) (.inr ⟨_,_,rfl,congrArg (AV.int .i64) hsub⟩) (.inl ⟨rfl,rfl⟩)) ?_|refine BP ?_|refine BQ ?_
 refine ag rfl ((rq hE T.WQ f1 (n:=4) (by omega) (by simp [aB])).mono fun r h2 ⟨e2,e3⟩=> ?_)
 subst e2 e3
 rw [List.take_left' (aB _ _),ni (by omega)]
 obtain ⟨iv,i1,i2,i3,i4⟩:=hr.bytes (lo:=bs.flatten.length) (hi:=L.length - 8) (by omega) (by omega)
 obtain ⟨dv,d1,d2,d3,d4⟩:=hr.bytes (lo:=0) (hi:=bs.flatten.length) (by omega) (by omega)
 have ei:(L.drop bs.flatten.length).take (L.length - 8 - bs.flatten.length)=encB np 2++gq bs:=by
  rw [hL,List.drop_left' rfl,<-hL]
  exact List.take_left' (by simp only [List.length_append,aB,hil,hbn];omega)
 have ed:(L.drop 0).take (bs.flatten.length - 0)=bs.flatten:=by
  rw [List.drop_zero,Nat.sub_zero,hL]
  exact List.take_left' rfl
 rw [ei] at i1
 rw [ed] at d1
 have hie:(encB np 2++gq bs).length=2+4*np:=by simp only [List.length_append,aB,hil,hbn]
 have n2:¬((bs.flatten.length:Int) > (L.length:Int) - 8):=by omega
 repeat first|refine ZA ?_|refine BV (hr.ah (by rfl)) ?_|refine BV (cO rfl (by omega)) ?_|refine BP ?_|refine BQ ?_
 repeat first|refine ZI ?_|refine CB (hr.ah (by rfl)) ?_|refine CB (rf (op:= .sub) rfl rfl rfl (by omega)) ?_|refine CB (i4 (by rfl) (.inr ⟨_,_,rfl,rfl⟩) (.inr ⟨_,_,rfl,congrArg (AV.int .i64) hsub⟩)) ?_|refine CB (d4 (by rfl) (.inl ⟨rfl,rfl⟩) (.inr ⟨_,_,rfl,rfl⟩)) ?_|refine BV (hr.ah (by rfl)) ?_|refine BV (rf (op:= .sub) rfl rfl rfl (by omega)) ?_|refine BV (i4 (by rfl) (.inr ⟨_,_,rfl,rfl⟩) (.inr ⟨_,_,rfl,congrArg (AV.int .i64) hsub⟩)) ?_|refine BV (d4 (by rfl) (.inl ⟨rfl,rfl⟩) (.inr ⟨_,_,rfl,rfl⟩)) ?_|refine BP ?_|refine BQ ?_|refine CC ?_
 refine ag rfl ((rq hE T.WQ i1 (n:=2) (by omega) (by omega)).mono fun r h2 ⟨e2,e3⟩=> ?_)
 subst e2 e3
 rw [List.take_left' (aB _ _),ni (by omega)]
 obtain ⟨jv,j1,j2,j3,j4⟩:=i1.bytes (lo:=2) (hi:=(encB np 2++gq bs).length) (by omega) (Nat.le_refl _)
 have ej:((encB np 2++gq bs).drop 2).take ((encB np 2++gq bs).length - 2)=gq bs:=by
  rw [List.drop_left' (aB _ _)]
  exact List.take_of_length_le (by omega)
 rw [ej] at j1
 rw [hie] at i1 j4
 have hm1:((2:Nat):Int)+((4*np:Nat):Int)=((2+4*np:Nat):Int):=by omega
 have vm:∀{hh:Hp MD} {e:En} {t:List AV} {q:Eq} {x y:Od},x.ev e t= .int .u64 4->y.ev e t= .int .u64 (np:Int)->(Mv.bin .mul q x y).ev e t hh=some (.int .u64 ((4*np:Nat):Int)):=fun hx hy=>Xb (a:=4) hx hy (by omega)
 have va:∀{hh:Hp MD} {e:En} {t:List AV} {q:Eq} {x y:Od},x.ev e t= .int .u64 2->y.ev e t= .int .u64 ((4*np:Nat):Int)->(Mv.bin .add q x y).ev e t hh=some (.int .u64 ((2+4*np:Nat):Int)):=fun hx hy=>Xc (a:=2) hx hy (by omega)
 repeat first|refine ZA ?_|refine BV (i1.ah (by rfl)) ?_|refine BV (cO rfl (by omega)) ?_|refine BV (vm rfl rfl) ?_|refine BV (va rfl rfl) ?_|refine BV (j4 (by rfl) (.inr ⟨_,_,rfl,rfl⟩) (.inl ⟨rfl,rfl⟩)) ?_|refine BP ?_|refine BQ ?_
 have hvs:v≠ .bV:=by rintro rfl;have:L.length=0:=hr.1;omega
 have hix:∀j,((gq bs).drop (4*j)).length=4*np - 4*j:=fun j=>by rw [List.length_drop,hil,hbn]
 refine aQ (fun q t g=>∃(jv dv o s8 s12 s13:AV) (j:Nat),j<=np/\q=np - j/\Keep NoB h2 g/\RS g 1 jv ((gq bs).drop (4*j)).length (((gq bs).drop (4*j)).map ub)/\RS g 1 dv (bs.drop j).flatten.length ((bs.drop j).flatten.map ub)/\(∀k,blk dv k->blk v k)/\(∀k,blk jv k->blk v k)/\Parts h2 g v o (bs.take j)/\
  t=[v, .ae, .int .u64 bs.flatten.length,jv,dv, .int .u64 np, .bool true,o,s8, .bool false, .bool false, .bool false,s12,s13]) ?_ np _ _ ⟨jv,dv, .ae,_,_,_,0,by omega,by omega,Keep.refl _ _,by rw [Nat.mul_zero,List.drop_zero];exact j1,by rw [List.drop_zero];exact d1,d2,fun k q=>i2 k (j2 k q),⟨[],⟨rfl,rfl⟩,(fun k q=>q.elim),fun i r q=>by simp at q⟩,rfl⟩
 clear j1 j2 j3 j4 d1 d2 d3 d4
 rintro q t g ⟨jv,dv,o,s8,s12,s13,j,hj,hq,K,rj,rd,bd,bj,P,rfl⟩
 by_cases hlt:j < np
 ·have hb:bs[j]?=some (bs[j]'(by omega)):=List.getElem?_eq_getElem (by omega)
  generalize bs[j]'(by omega)=b at hb
  have hbm:=hbl b (List.mem_of_getElem? hb)
  have ex:=Tv hb
  have efl:=Xd hb
  have hxl:=hix j
  have hpj:=hpl j (by omega)
  obtain ⟨j2v,k1,k2,k3,k4⟩:=rj.bytes (lo:=4) (hi:=((gq bs).drop (4*j)).length) (by omega) (Nat.le_refl _)
  have ek:(((gq bs).drop (4*j)).drop 4).take (((gq bs).drop (4*j)).length - 4)=(gq bs).drop (4*(j+1)):=by
   rw [List.drop_drop,show 4*j+4=4*(j+1) by omega]
   exact List.take_of_length_le (by rw [hix,hxl];omega)
  rw [ek] at k1
  have hdl:(bs.drop j).flatten.length=b.length+(bs.drop (j+1)).flatten.length:=by rw [efl,List.length_append]
  obtain ⟨cv,c1,c2,c3,c4⟩:=rd.bytes (lo:=0) (hi:=b.length) (by omega) (by omega)
  have ec:((bs.drop j).flatten.drop 0).take (b.length - 0)=b:=by rw [List.drop_zero,Nat.sub_zero,efl];exact List.take_left' rfl
  rw [ec] at c1
  obtain ⟨d2v,d1,d2,d3,d4⟩:=rd.bytes (lo:=b.length) (hi:=(bs.drop j).flatten.length) (by omega) (Nat.le_refl _)
  have ed2:((bs.drop j).flatten.drop b.length).take ((bs.drop j).flatten.length - b.length)=(bs.drop (j+1)).flatten:=by
   rw [efl,List.drop_left' rfl]
   exact List.take_of_length_le (by rw [List.length_append];omega)
  rw [ed2] at d1
  have n3:(((gq bs).drop (4*j)).length:Int) > 0:=by omega
  have n4:¬((b.length:Int) > ((bs.drop j).flatten.length:Int)):=by omega
  repeat first|refine ZA ?_|refine BV (rj.ah (by rfl)) ?_|refine BP ?_|refine BQ ?_
  refine ag rfl ((rq hE T.WQ rj (n:=4) (by omega) (by omega)).mono fun r h3 ⟨e2,e3⟩=> ?_)
  subst e2 e3
  rw [show ((gq bs).drop (4*j)).take 4=encB b.length 4 by rw [ex];exact List.take_left' (aB _ _),ni (by omega)]
  obtain ⟨cells,g1,g2,g3⟩:=P.out
  repeat first|refine ZA ?_|refine BV (rd.ah (by rfl)) ?_|refine BV (cO rfl (by omega)) ?_|refine BV (c4 (by rfl) (.inl ⟨rfl,rfl⟩) (.inr ⟨_,_,rfl,rfl⟩)) ?_|refine BW (dO (c:=cv) rfl c1.one.1 c1.one.2) ?_|refine BP ?_|refine BQ ?_
  have htl:(bs.take j).length=j:=by rw [List.length_take];omega
  have kp:Keep NoB h3 (h3.push (.rw [cv])):=Keep.push _ _ _
  rw [htl] at g1
  refine aA rfl rfl (g1.up kp) Nat.zero_lt_one (bH (n:=1) rfl) (by omega) (by omega) fun o' h4 a1 a2 a3=> ?_
  repeat first|refine ZA ?_|refine BV (d4 (by rfl) (.inr ⟨_,_,rfl,rfl⟩) (.inl ⟨rfl,rfl⟩)) ?_|refine BV (k4 (by rfl) (.inr ⟨_,_,rfl,rfl⟩) (.inl ⟨rfl,rfl⟩)) ?_|refine BP ?_|refine BQ ?_
  have K4:Keep NoB h2 h4:=(K.and kp).trans a2 (fun k hk hb=>by have:=g2 k hb;omega)
  have vl:∀k,blk v k->¬blk o k:=fun k q1 q2=>by have:=hr.lt k q1;have:=g2 k q2;omega
  have rjl:∀k,blk jv k->¬blk o k:=fun k q=>vl k (bj k q)
  refine aj (np - (j+1)) (by omega) ⟨j2v,d2v,o',_,_,_,j+1,by omega,rfl,K4,(k1.up kp).keep a2 (fun k q=>rjl k (k2 k q)),(d1.up kp).keep a2 (fun k q=>vl k (bd k (d2 k q))),fun k q=>bd k (d2 k q),fun k q=>bj k (k2 k q),⟨cells++[cv], ?_,fun k hk=> ?_,fun i r hi=> ?_⟩,rfl⟩
  ·rw [List.length_take,show min (j+1) bs.length=j+1 by omega]
   exact a1
  ·rcases a3 k hk with hb|hb
   ·exact g2 k hb
   ·have:=K.n;have hb:h3.n+1<=k:=hb;omega
  ·have hcl:cells.length=j:=by have:=g1.len;omega
   by_cases hi':i < j
   ·rw [List.getElem?_take_of_lt (by omega)] at hi
    obtain ⟨c,f1,f2,f3⟩:=g3 i r (by rw [List.getElem?_take_of_lt hi'];exact hi)
    exact ⟨c,by rw [List.getElem?_append_left (by omega)];exact f1,(f2.up kp).keep a2 (fun k q=>vl k (f3 k q)),f3⟩
   ·have hl:=(List.getElem?_eq_some_iff.1 hi).1
    rw [List.length_take] at hl
    obtain rfl:i=j:=by omega
    rw [List.getElem?_take_of_lt (by omega),hb] at hi
    cases hi
    exact ⟨cv,by rw [List.getElem?_append_right (by omega),show i - cells.length=0 by omega];rfl,(c1.up kp).keep a2 (fun k q=>vl k (bd k (c2 k q))),fun k q=>bd k (c2 k q)⟩
 ·obtain rfl:j=np:=by omega
  have n5:¬((((gq bs).drop (4*j)).length:Int) > 0):=by have:=hix j;omega
  repeat first|refine ZA ?_|refine BV (rj.ah (by rfl)) ?_|refine BP ?_|refine BQ ?_
  refine ⟨K, ?_⟩
  rw [List.take_of_length_le (by omega)] at P
  exact P
end
def pg:BF:=⟨53,[0,2,3,4,6,7,9,10,14,15,16,17,51],(.seq (.reg [mvS 1 (.mv (.const .bU)),mvS 2 (.mv (.const (.int .i64 0)))]) (.seq (.reg [mvE 11 (.bld [.ae] []),efE 12 (.box (eV 11)),csE 3 12]) (.seq (.seq (.reg [ceS 13 0, .mk none (.slot 8) (.call 155 [eV 13]),mvS 9 (.ah (sL 8)),mvS 10 (.mv (.const (.int .i64 0)))]) (.block 0 (.loop (.seq (.reg [mvS 11 (.bin .lss .no (sL 10) (sL 9))]) (.seq (.cond (sL 11) .skip (.exit 0)) (.seq (.block 1 (.seq (.reg [mvE 18 (.aP 1 (sL 8) (sL 10)),ldE 19 18,csE 4 19]) (.seq (.reg [ceS 21 4,clE 22 156 [eV 21],ceE 20 22,exE 23 0 20,exE 24 1 20,csE 5 23,ceE 8 24]) (.reg [ceS 25 3,ceS 26 3,nlE 27 26,faE 28 0 27,ldE 29 28,ceS 30 5,efE 31 (.append 3 56 (eV 29) (eV 30)),nlE 32 25,faE 33 0 32, .mk none .none (.eff (.store 1 (eV 33) (eV 31)))])))) (.reg [mvE 34 (.bin .add .no (sL 10) (.const (.int .i64 1))),csE 10 34]))))))) (.seq (.reg [ceS 36 3,nlE 37 36,faE 38 0 37,ldE 39 38,clE 40 125 [eV 39],ceE 35 40,exE 41 0 35,exE 42 1 35,csE 6 41,csE 7 42]) (.seq (.seq (.reg [ceS 43 7,mvE 44 (.bin .neq .no (eV 43) (.const (.int .i64 0))),ceE 45 44, .mk (some ((eV 45),false)) (.env 46) (.mov (.mv (sL 6))), .mk (some ((eV 45),false)) (.env 47) (.mov (.b2s (eV 46))), .mk (some ((eV 45),false)) (.env 48) (.mov (.mv (sL 0))), .mk (some ((eV 45),false)) (.env 49) (.mov (.b2s (eV 48))), .mk (some ((eV 45),false)) (.env 50) (.mov (.bin .neq .no (eV 47) (eV 49))),mvS 12 (.pick (eV 45) (.const (.bool true)) (eV 50))]) (.cond (sL 12) (.seq (.reg [mvS 1 (.mv (.const .bU)),mvS 2 (.mv (.const (.int .i64 12)))]) .ret) .skip)) (.seq (.reg [ceS 52 3,csE 1 52,mvS 2 (.mv (.const (.int .i64 0)))]) .ret)))))),[.slot (sL 1), .slot (sL 2)]⟩
theorem OE.app {X:Type} {h:Hp X} {v w:AV} {l m:List EM} {lo:Nat} {F G:Nat->Prop} (a:OE h v l lo F) (b:aN h w m G) (hG:∀k,G k->F k/\¬blk v k) (hlo:lo<=h.n):
  ∃cells cells',OS h 3 v l.length cells/\RS h 3 w m.length cells'/\∀v' h',OS h' 3 v' (l.length+m.length) (cells++cells')->Keep (blk v) h h'->(∀g,blk v' g->blk v g\/h.n<=g)->OE h' v' (l++m) lo F:=by
 obtain ⟨tri,h1,h2,h3,h4,h5⟩:=a.out
 obtain ⟨acm,g1,g2,g3,g4,g5⟩:=b.out
 refine ⟨_,_,h1,g1,fun v' h' a1 a2 a3=>⟨tri++acm, ?_,by simp [h2,g2],fun i q e q1 q2=> ?_,fun k hk=> ?_,fun q hq k hk=> ?_⟩⟩
 ·rw [List.length_append,List.flatMap_append]
  exact a1
 ·by_cases hi:i < l.length
  ·rw [List.getElem?_append_left (by omega)] at q1
   rw [List.getElem?_append_left hi] at q2
   exact (h3 i q e q1 q2).keep a2 (fun k hk hb=>(h5 q (List.mem_of_getElem? q1) k hk).2 hb)
  ·rw [List.getElem?_append_right (by omega)] at q1 q2
   rw [h2] at q1
   exact (g3 _ q e q1 q2).keep a2 (fun k hk hb=>(hG k (g5 q (List.mem_of_getElem? q1) k hk)).2 hb)
 ·rcases a3 k hk with hb|hb
  ·exact h4 k hb
  ·omega
 ·have nb:∀k,k < h.n->¬blk v k->¬blk v' k:=fun k k1 k2 k3=>by
   rcases a3 k k3 with hb|hb
   ·exact k2 hb
   ·omega
  rcases List.mem_append.1 hq with hq|hq
  ·obtain ⟨f1,f2⟩:=h5 q hq k hk
   obtain ⟨i,hi⟩:=List.mem_iff_getElem?.1 hq
   have hil:=(List.getElem?_eq_some_iff.1 hi).1
   exact ⟨f1,nb k ((h3 i q _ hi (List.getElem?_eq_getElem (by omega))).lt k hk) f2⟩
  ·obtain ⟨f1,f2⟩:=hG k (g5 q hq k hk)
   obtain ⟨i,hi⟩:=List.mem_iff_getElem?.1 hq
   have hil:=(List.getElem?_eq_some_iff.1 hi).1
   exact ⟨f1,nb k ((g3 i q _ hi (List.getElem?_eq_getElem (by omega))).lt k hk) f2⟩
theorem OE.abh {X:Type} {h h':Hp X} {S F:Nat->Prop} {v:AV} {l:List EM} {lo:Nat} (a:OE h v l lo F) (k:Keep S h h') (hv:∀k,blk v k->¬S k) (hF:∀k,F k->¬S k):OE h' v l lo F:=by
 obtain ⟨tri,h1,h2,h3,h4,h5⟩:=a.out
 exact ⟨tri,h1.keep k hv,h2,fun i q e q1 q2=>(h3 i q e q1 q2).keep k (fun j hj=>hF j (h5 q (List.mem_of_getElem? q1) j hj).1),h4,h5⟩
structure KoT (E:Nat->Option (Ent MD)):Prop extends KaT E where
 parts:E 155=some (.bc jL)
 topen:E 119=some (.bc pg)
 TA:E 125=some (.nat (qC Xa))
section
variable {E:Nat->Option (Ent MD)}
set_option maxHeartbeats 8000000 in
theorem topen_ok (hE:∀f e,E f=some e->e.plain) (T:KoT E) {h:Hp MD} {v:AV} {l:List EM} (hr:RS h 1 v (dM l).length ((dM l).map ub)) (ok:jX l):
  WF (lim E) 119 [v] h fun r h'=>Keep NoB h h'/\r= .tup [.ptr h.n 0, .int .i64 0]/\iG h' h.n l (fun k=>h.n < k):=by
 refine aC hE T.topen rfl ?_
 simp only [pg,mvE,mvS,clE,efE,ceS,ceE,csE,faE,nlE,ldE,lnE,exE,eV,sL,kI,List.map,getS]
 have hmx:(maxLen:Nat)=9223372036854775807:=rfl
 have b0:Bx (h.push (.rw [.ae])) h.n [AV.ae]:=aH
 have k0:Keep NoB h (h.push (.rw [.ae])):=Keep.push _ _ _
 obtain ⟨h0,hh0⟩:∃h0:Hp MD,h0=h.push (.rw [.ae]):=⟨_,rfl⟩
 rw [<-hh0] at b0 k0
 have n0:h0.n=h.n+1:=by rw [hh0];rfl
 repeat first|refine ZA ?_|refine BW (iD rfl rfl) ?_|refine BP ?_|refine BQ ?_
 refine aJ (h':=h0) (by rw [hh0];first|done|rfl) ?_
 have hr0:=hr.up k0
 repeat first|refine ZA ?_|refine BP ?_|refine BQ ?_
 refine nY rfl ((OG hE T.toKaT T.parts hr0 ok).mono fun pv h2 ⟨k2,P⟩=> ?_)
 clear hh0
 obtain ⟨cells,g1,g2,g3⟩:=P.out
 have hbn:(iF l).length=bu l:=tC _ _
 rw [hbn] at g1
 have n2:=k2.n
 have b2:=b0.up k2
 have hr2:=hr0.up k2
 have hnp:bu l<=8192:=by have:=ok.most;unfold bu;omega
 have hll:=ok.most
 repeat first|refine ZA ?_|refine BV (g1.rs.ah (by rfl)) ?_|refine BP ?_|refine BQ ?_
 refine aQ (fun q t g=>∃(a s4 s5 s6 s7 s11 s12:AV) (j:Nat),j<=bu l/\q=bu l - j/\Keep (az h.n) h2 g/\Bx g h.n [a]/\OE g a (l.take (8*j)) h2.n (fun k=>h2.n<=k)/\t=[v, .bU, .int .i64 0, .ptr h.n 0,s4,s5,s6,s7,pv, .int .i64 (bu l), .int .i64 j,s11,s12]) ?_ (bu l) _ _ ⟨.ae,_,_,_,_,_,_,0,by omega,by omega,Keep.refl _ _,b2,by rw [Nat.mul_zero,List.take_zero];exact OE.nil,rfl⟩
 rintro q t g ⟨a,s4,s5,s6,s7,s11,s12,j,hj,hq,K,bx,oe,rfl⟩
 have pk:∀k,blk pv k->¬az h.n k:=fun k q1 q2=>by have:=g2 k q1;have q2:k=h.n:=q2;omega
 have g1':=g1.keep K pk
 have hrk:∀k,blk v k->¬az h.n k:=fun k q1 q2=>by have:=hr.lt k q1;have q2:k=h.n:=q2;omega
 have hr3:=hr2.keep K hrk
 have kn:=K.n
 by_cases hlt:j < bu l
 ·have hb:(iF l)[j]?=some (dV (bZ l j)):=by unfold iF uo;rw [List.getElem?_map,List.getElem?_range hlt];rfl
  obtain ⟨c,f1,f2,f3⟩:=g3 j _ hb
  have f2':=f2.keep K (fun k q1 q2=>hrk k (f3 k q1) q2)
  obtain ⟨ga,oa,pa,la⟩:=g1'.rs.at2 hlt
  have hpl:=wo l j
  have hj8:8*j < l.length:=by unfold bu at hlt;omega
  repeat first|refine ZA ?_|refine BV (pa rfl rfl) ?_|refine BV ((la (S:=NoB) (Keep.refl _ _) (fun _ _ q=>q) rfl).trans f1) ?_|refine BP ?_|refine BQ ?_
  refine ag rfl ((WU hE T.toKaT f2' (by omega) (by omega) (Ii ok j) (fun e he=>ok.nrm e (wu he))).mono fun r g1 ⟨k3,w,e3,en⟩=> ?_)
  subst e3
  have bx1:=bx.up k3
  have oe1:=oe.up k3
  have k3n:=k3.n
  obtain ⟨cs,cs',o1,o2,o3⟩:=oe1.app en (fun k hk=>⟨Nat.le_trans kn hk,fun q=>by have:=oe.lt k q;omega⟩) (Nat.le_trans kn k3n)
  have htl:(l.take (8*j)).length=8*j:=by rw [List.length_take];omega
  rw [htl] at o1 o3
  repeat first|refine ZA ?_|refine BV (ak rfl) ?_|refine BV (au bx1 rfl rfl) ?_|refine BP ?_|refine BQ ?_
  refine aA rfl rfl o1 (by decide) o2 (by omega) (by omega) fun a' h4 a1 a2 a3=> ?_
  have oe2:=o3 a' h4 a1 a2 a3
  have bx2:=bx1.keep a2 (fun q=>by have:=oe.lo _ q;omega)
  repeat first|refine ZA ?_|refine BV (ak rfl) ?_|refine BW (fQ bx2 rfl rfl a1.one (Nat.lt_succ_self 0)) ?_|refine BP ?_|refine BQ ?_
  have kq:Keep (az h.n) h4 (h4.put h.n (.rw [a'])):=Keep.put _ _ _ rfl
  have K4:Keep (az h.n) h2 (h4.put h.n (.rw [a'])):=((K.trans k3 (fun _ _ q=>q.elim)).trans a2 (fun k hk hb=>by have:=oe.lo k hb;omega)).trans kq (fun _ _ q=>q)
  refine aj (bu l - (j+1)) (by omega) ⟨a',_,_,_,_,_,_,j+1,by omega,rfl,K4,bx2.put, ?_,rfl⟩
  rw [Om]
  exact oe2.abh kq (fun k q1 q2=>by have:=oe2.lo k q1;have q2:k=h.n:=q2;omega) (fun k q1 q2=>by have q2:k=h.n:=q2;omega)
 ·obtain rfl:j=bu l:=by omega
  rw [List.take_of_length_le (by unfold bu;omega)] at oe
  have en:=oe.oM
  repeat first|refine ZA ?_|refine BV (ak rfl) ?_|refine BV (au bx rfl rfl) ?_|refine BP ?_|refine BQ ?_
  refine ag rfl ((Di hE T.TA en ok).mono fun r h4 ⟨e3,e4⟩=> ?_)
  subst e3 e4
  have rb:RS (g.push (.rw ((dM l).map ub))) 1 (.slice 1 g.n 0 (dM l).length none) (dM l).length ((dM l).map ub):=bH (by simp)
  have kp:Keep NoB g (g.push (.rw ((dM l).map ub))):=Keep.push _ _ _
  have hr4:=hr3.up kp
  repeat first|refine ZA ?_|refine BV (fP rfl rb) ?_|refine BV (fP rfl hr4) ?_|refine BV (sZ rfl rfl rfl) ?_|refine BP ?_|refine BQ ?_
  refine ⟨⟨by have:=kp.n;omega,fun k hk hs=> ?_⟩,rfl,a,bx.up kp, ?_⟩
  ·have q1:=kp.get k (by omega) hs
   have q2:=K.get k (by omega) (fun q=>by have q:k=h.n:=q;omega)
   have q3:=k2.get k (by omega) hs
   have q4:=k0.get k hk hs
   rw [q1,q2,q3,q4]
  ·exact (en.up kp).on (fun k q=>by omega)
end
end Am
end Go.Proofs.YtbnkdnlfdofepaaGreat
