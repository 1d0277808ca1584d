/- The plain machine: a disk as one thing of the heap; what the calls of package disk make of it is what has been shown of them. The plain machine: disks: New, Append, Read, Names. The plain machine: disks: New, Names; names compared. -/
import Derived.Test.YtbnkdnlfdofepaaGreatMC
import Derived.Test.YtbnkdnlfdofepaaGreatME
set_option linter.unusedVariables false
set_option linter.unusedSimpArgs false
namespace Go.Proofs.YtbnkdnlfdofepaaGreat
namespace Am
open Go.RowKit
set_option maxRecDepth 100000
theorem Qq {w w':World} {d:Nat} {m:MD} {v:Value} {ga:Option Nat} {fs:List FM} (h:Lay w d m v ga fs) (hs:∀k,_root_.Go.Proofs.YtbnkdnlfdofepaaGreat.DS d ga fs k->w'.heap[k]?=w.heap[k]?):Lay w' d m v ga fs:=
 ⟨h.disk.same (hs d (.inl rfl)),h.arr.same (fun g hg=>hs g (.inr (.inl hg))),fun f hf=>(h.files f hf).same (hs _ (.inr (.inr ⟨f,hf, .inl rfl⟩))) (fun g hg=>hs g (.inr (.inr ⟨f,hf, .inr hg⟩))),h.abs,h.pn,h.bn,h.ok⟩
theorem Qr {w w':World} {d:Nat} {m:MD} {S:Nat->Prop} (h:bQ w d m S) (hs:∀k,S k->w'.heap[k]?=w.heap[k]?):bQ w' d m S:=by
 obtain ⟨v,ga,fs,hl,rfl⟩:=h
 exact ⟨v,ga,fs,Qq hl hs,rfl⟩
def OD:dH:={X:=MD,rep:=fun x w b S=>bQ w b x S,lt:=fun h _ hk=>h.lt hk,keep:=fun h hs=>Qr h hs}
noncomputable def onObj (h:Hp MD) (v:AV) (f:Nat->MD->gp MD):gp MD:=match v with
 | .ptr g o=>bif Nat.beq o 0 then (match h.get g with|some (.obj x)=>bif Nat.ble x.fs.length 1099511627775 then f g x else .bad|_=> .bad) else .bad
 |_=> .bad
theorem nU {h:Hp MD} {v:AV} {f:Nat->MD->gp MD} (hb:onObj h v f≠ .bad):∃g x,v= .ptr g 0/\h.get g=some (.obj x)/\x.fs.length<=1099511627775/\onObj h v f=f g x:=by
 unfold onObj at hb ⊢
 cases v<;>first|exact absurd rfl hb|skip
 rename_i g o
 simp only at hb ⊢
 cases ho:Nat.beq o 0 with
 |false=>rw [ho] at hb;exact absurd rfl hb
 |true=>
  rw [ho] at hb
  have:=Nat.eq_of_beq_eq_true ho
  subst this
  simp only [cond_true] at hb ⊢
  cases hg:h.get g with
  |none=>rw [hg] at hb;exact absurd rfl hb
  |some c=>
   rw [hg] at hb
   cases c with
   |rw l=>exact absurd rfl hb
   |ro l=>exact absurd rfl hb
   |obj x=>
    simp only at hb ⊢
    cases hn:Nat.ble x.fs.length 1099511627775 with
    |false=>rw [hn] at hb;exact absurd rfl hb
    |true=>exact ⟨g,x,rfl,hg,Nat.le_of_ble_eq_true hn,rfl⟩
def onS (v:AV) (f:List UInt8->gp MD):gp MD:=match v with| .str s=>f s|_=> .bad
theorem wZ {v:AV} {f:List UInt8->gp MD} (hb:onS v f≠ .bad):∃s,v= .str s:=by
 cases v<;>first|exact absurd rfl hb|exact ⟨_,rfl⟩
def onI (v:AV) (f:Int->gp MD):gp MD:=match v with| .int .i64 n=>f n|_=> .bad
theorem Qs {v:AV} {f:Int->gp MD} (hb:onI v f≠ .bad):∃n,v= .int .i64 n:=by
 cases v<;>first|exact absurd rfl hb|skip
 rename_i k n
 cases k<;>first|exact absurd rfl hb|exact ⟨_,rfl⟩
def ar1 (args:List AV) (f:AV->gp MD):gp MD:=match args with|[a]=>f a|_=> .bad
def ar2 (args:List AV) (f:AV->AV->gp MD):gp MD:=match args with|[a,b]=>f a b|_=> .bad
def ar3 (args:List AV) (f:AV->AV->AV->gp MD):gp MD:=match args with|[a,b,c]=>f a b c|_=> .bad
theorem Qu {args:List AV} {f:AV->gp MD} (hb:ar1 args f≠ .bad):∃a,args=[a]:=by
 unfold ar1 at hb;split at hb;exact ⟨_,rfl⟩;exact absurd rfl hb
theorem Qv {args:List AV} {f:AV->AV->gp MD} (hb:ar2 args f≠ .bad):∃a b,args=[a,b]:=by
 unfold ar2 at hb;split at hb;exact ⟨_,_,rfl⟩;exact absurd rfl hb
theorem Jl {args:List AV} {f:AV->AV->AV->gp MD} (hb:ar3 args f≠ .bad):∃a b c,args=[a,b,c]:=by
 unfold ar3 at hb;split at hb;exact ⟨_,_,_,rfl⟩;exact absurd rfl hb
theorem aay {m:Mu} {a:AV} {l:List Value} (h:VRs m [a] l):∃v,l=[v]/\VR m a v:=by
 simp only [VRs] at h;obtain ⟨v,_,rfl,h1,rfl⟩:=h;exact ⟨v,rfl,h1⟩
theorem Y5 {m:Mu} {a b:AV} {l:List Value} (h:VRs m [a,b] l):∃v u,l=[v,u]/\VR m a v/\VR m b u:=by
 simp only [VRs] at h;obtain ⟨v,_,rfl,h1,u,_,rfl,h2,rfl⟩:=h;exact ⟨v,u,rfl,h1,h2⟩
theorem VU {m:Mu} {a b c:AV} {l:List Value} (h:VRs m [a,b,c] l):∃v u t,l=[v,u,t]/\VR m a v/\VR m b u/\VR m c t:=by
 simp only [VRs] at h;obtain ⟨v,_,rfl,h1,u,_,rfl,h2,t,_,rfl,h3,rfl⟩:=h;exact ⟨v,u,t,rfl,h1,h2,h3⟩
section
variable {w0 w:World} {m:Mu} {φ:Ph} {h:Hp OD.X}
theorem xe (H:SR OD w0 w m φ h) {g:Nat} {x:MD} {v:Value} (hv:VR m (.ptr g 0) v) (hg:h.get g=some (.obj x)):∃p,m g=some p/\v= .pointer (some ⟨p.b,0,none⟩)/\p.s=0/\bQ w p.b x (φ g):=by
 simp only [VR] at hv
 obtain ⟨p,hp,rfl⟩:=hv
 obtain ⟨h1,h2⟩:=H.blk g _ hg p hp
 exact ⟨p,hp,by rw [h1],h1,h2⟩
theorem vG (H:SR OD w0 w m φ h) {g:Nat} {x x':MD} {p:Pl} (hp:m g=some p) (hg:h.get g=some (.obj x)) (hs:p.s=0) {r:Value} {a:AV} {e:Ending} {w':World} (hd:dN w p.b (φ g) r x' e w') (hr:VR m a r):
  iy OD w0 m h (.ret a (h.put g (.obj x'))) e w':=by
 obtain ⟨rfl,S',h1,h2,h3⟩:=hd
 exact ⟨m,φ.set g S',r,fun _ _=>rfl,Nat.le_refl _,H.upd hg rfl hp h2 ⟨hs,h1⟩ rfl h3,hr,rfl⟩
theorem Bq (H:SR OD w0 w m φ h) {r:Value} {a:AV} {e:Ending} {w':World} (hd:e= .returned r/\w'=w) (hr:VR m a r):iy OD w0 m h (.ret a h) e w':=by
 obtain ⟨rfl,rfl⟩:=hd
 exact ⟨m,φ,r,fun _ _=>rfl,Nat.le_refl _,H,hr,rfl⟩
end
noncomputable def jg (F:MD->List UInt8->Int×MD):Fn MD:=fun _ args h=>ar2 args fun d s=>onS s fun s=>onObj h d fun g x=> .ret (.int .i64 (F x s).1) (h.put g (.obj (F x s).2))
theorem xg {f:Nat} {F:MD->List UInt8->Int×MD} (hc:callable Tryz.prog f=true)
  (hF:∀{w:World} {d:Nat} {m:MD} {S:Nat->Prop},bQ w d m S->m.fs.length<=1099511627775->∀s:ByteArray,Calls Tryz.prog f #[.pointer (some ⟨d,0,none⟩), .string s] w (dN w d S (.int .i64 (F m s.data.toList).1) (F m s.data.toList).2)):
  jD Tryz.prog OD f (jg F):=by
 refine ⟨hc,fun {D} hD args h hb {w0 w m φ args'} hs hv=> ?_⟩
 obtain ⟨a,b,rfl⟩:=Qv hb
 have hb:onS b (fun s=>onObj h a fun g x=> .ret (.int .i64 (F x s).1) (h.put g (.obj (F x s).2)))≠ .bad:=hb
 obtain ⟨s,rfl⟩:=wZ hb
 obtain ⟨g,x,rfl,hg,hn,he⟩:=nU (show onObj h a (fun g x=> .ret (.int .i64 (F x s).1) (h.put g (.obj (F x s).2)))≠ .bad from hb)
 obtain ⟨v,u,rfl,h1,h2⟩:=Y5 hv
 obtain ⟨p,hp,rfl,hps,hrep⟩:=xe hs h1 hg
 simp only [VR] at h2
 subst h2
 refine (hF hrep hn ⟨s.toArray⟩).mono fun e w' hd=> ?_
 show iy OD w0 m h (onObj h (.ptr g 0) fun g x=> .ret (.int .i64 (F x s).1) (h.put g (.obj (F x s).2))) e w'
 rw [he]
 exact vG hs hp hg hps (by simpa using hd) (by simp [VR])
theorem Qw:jD Tryz.prog OD 50 (jg MD.create):=xg (by kernel_rfl) fun h hn s=>Jh h hn s
theorem Qx:jD Tryz.prog OD 85 (jg MD.remove):=xg (by kernel_rfl) fun h hn s=>Ji h hn s
theorem Y6:jD Tryz.prog OD 108 (jg MD.sync):=xg (by kernel_rfl) fun h hn s=>Qk h hn s
noncomputable def qW:Fn MD:=fun _ args h=>ar3 args fun d s t=>onS s fun s=>onS t fun t=>onObj h d fun g x=> .ret (.int .i64 (x.rename s t).1) (h.put g (.obj (x.rename s t).2))
theorem Qy:jD Tryz.prog OD 128 qW:=by
 refine ⟨by kernel_rfl,fun {D} hD args h hb {w0 w m φ args'} hs hv=> ?_⟩
 obtain ⟨a,b,c,rfl⟩:=Jl hb
 have hb:onS b (fun s=>onS c fun t=>onObj h a fun g x=> .ret (.int .i64 (x.rename s t).1) (h.put g (.obj (x.rename s t).2)))≠ .bad:=hb
 obtain ⟨s,rfl⟩:=wZ hb
 have hb:onS c (fun t=>onObj h a fun g x=> .ret (.int .i64 (x.rename s t).1) (h.put g (.obj (x.rename s t).2)))≠ .bad:=hb
 obtain ⟨t,rfl⟩:=wZ hb
 obtain ⟨g,x,rfl,hg,hn,he⟩:=nU (show onObj h a (fun g x=> .ret (.int .i64 (x.rename s t).1) (h.put g (.obj (x.rename s t).2)))≠ .bad from hb)
 obtain ⟨v,u,y,rfl,h1,h2,h3⟩:=VU hv
 obtain ⟨p,hp,rfl,hps,hrep⟩:=xe hs h1 hg
 simp only [VR] at h2 h3
 subst h2;subst h3
 refine (Jj hrep hn ⟨s.toArray⟩ ⟨t.toArray⟩).mono fun e w' hd=> ?_
 show iy OD w0 m h (onObj h (.ptr g 0) fun g x=> .ret (.int .i64 (x.rename s t).1) (h.put g (.obj (x.rename s t).2))) e w'
 rw [he]
 exact vG hs hp hg hps (by simpa using hd) (by simp [VR])
noncomputable def Gv:Fn MD:=fun _ args h=>ar3 args fun d s n=>onS s fun s=>onI n fun n=>onObj h d fun g x=> .ret (.int .i64 (x.cut s n).1) (h.put g (.obj (x.cut s n).2))
theorem aaz:jD Tryz.prog OD 121 Gv:=by
 refine ⟨by kernel_rfl,fun {D} hD args h hb {w0 w m φ args'} hs hv=> ?_⟩
 obtain ⟨a,b,c,rfl⟩:=Jl hb
 have hb:onS b (fun s=>onI c fun t=>onObj h a fun g x=> .ret (.int .i64 (x.cut s t).1) (h.put g (.obj (x.cut s t).2)))≠ .bad:=hb
 obtain ⟨s,rfl⟩:=wZ hb
 have hb:onI c (fun t=>onObj h a fun g x=> .ret (.int .i64 (x.cut s t).1) (h.put g (.obj (x.cut s t).2)))≠ .bad:=hb
 obtain ⟨t,rfl⟩:=Qs hb
 obtain ⟨g,x,rfl,hg,hn,he⟩:=nU (show onObj h a (fun g x=> .ret (.int .i64 (x.cut s t).1) (h.put g (.obj (x.cut s t).2)))≠ .bad from hb)
 obtain ⟨v,u,y,rfl,h1,h2,h3⟩:=VU hv
 obtain ⟨p,hp,rfl,hps,hrep⟩:=xe hs h1 hg
 simp only [VR] at h2 h3
 subst h2;subst h3
 refine (VN hrep hn ⟨s.toArray⟩ t).mono fun e w' hd=> ?_
 show iy OD w0 m h (onObj h (.ptr g 0) fun g x=> .ret (.int .i64 (x.cut s t).1) (h.put g (.obj (x.cut s t).2))) e w'
 rw [he]
 exact vG hs hp hg hps (by simpa using hd) (by simp [VR])
theorem SR.grow {O:dH} {w0 w w':World} {m:Mu} {φ:Ph} {h:Hp O.X} (H:SR O w0 w m φ h) (hu:Below w.heap.size w w'):SR O w0 w' m φ h:=
 ⟨nI H.below (Upd.of_below (S:=dG) hu) (fun b hb=>hb.elim),fun g c hg p hp=>(H.blk g c hg p hp).same fun ho k hk=>hu.block k ((H.blk g c hg p hp).lt ho hk),H.dis,H.fresh,H.dom⟩
def bytesR:List AV->Option Bs
 |[]=>some []
 |v::l=>match v with
  | .int .u8 (.ofNat n)=>bif Nat.blt n 256 then (match bytesR l with|some r=>some (UInt8.ofNat n::r)|none=>none) else none
  |_=>none
theorem Bv {m:Mu}:∀{l:List AV} {b:Bs} {vs:List Value},bytesR l=some b->VRs m l vs->vs=b.map bv
 |[],b,vs,h,hv=>by cases h;simp only [VRs] at hv;subst hv;rfl
 |x::l,b,vs,h,hv=>by
  simp only [VRs] at hv
  obtain ⟨v,us,rfl,h1,h2⟩:=hv
  unfold bytesR at h
  split at h
  ·rename_i n
   cases hn:Nat.blt n 256 with
   |false=>rw [hn] at h;cases h
   |true=>
    rw [hn] at h
    simp only [cond_true] at h
    have hn:n < 256:=by rw [Nat.blt_eq] at hn;exact hn
    split at h
    ·rename_i r hr
     cases h
     rw [Bv hr h2]
     simp only [VR] at h1
     subst h1
     simp only [List.map_cons,bv]
     congr 1
     simp [UInt8.toNat_ofNat',Nat.mod_eq_of_lt hn]
    ·cases h
  ·cases h
section
variable {w0 w:World} {m:Mu} {φ:Ph}
theorem Qz {O:dH} {h:Hp O.X} (hs:SR O w0 w m φ h) {n:Nat} {y:AV} {r:List AV} {v:Value} (he:elems h 1 y=some (n,r)) (hv:VR m y v):
  ∃vs,VRs m r vs/\vs.length=n/\Rd w 1 v n vs/\∀g x,h.get g=some (.obj x)->(m g).isSome=true->0 < n->∀k,v.ownBlock=some k->¬φ g k:=by
 obtain ⟨ad,c,vs,e1,h1,h2,h3,h4,h5,h6,h7,h8⟩:=jf hs he hv
 have hspot:∀x,ad=some x->0 < n->x.spot=none/\∃g' l p,(h.get g'=some (.rw l)\/h.get g'=some (.ro l))/\m g'=some p/\x.block=p.b:=by
  intro x hx hn
  cases y<;>simp only [elems] at he<;>first|(cases he;done)|skip
  ·rename_i z' g off len cap
   simp only [VR] at hv
   obtain ⟨p,ad',c',hp,e2,hlc,_,had,_⟩:=hv
   rw [e1] at e2
   cases e2
   cases hx
   have hc:c≠0:=by omega
   rw [had hc]
   refine ⟨rfl, ?_⟩
   cases hz:Nat.beq z' 1 with
   |false=>rw [hz] at he;cases he
   |true=>
    rw [hz] at he
    simp only [cond_true] at he
    cases hr:rowOf h g with
    |none=>rw [hr] at he;cases he
    |some l=>exact ⟨g,l,p,fJ hr,hp,rfl⟩
  all_goals
   cases he
   omega
 refine ⟨vs,h3,by omega,⟨by omega,by omega,ad,c,e1,h1,h2,h7,fun x hx=>⟨fun hn=>(hspot x hx hn).1,h8 x hx⟩⟩,fun g x hg hm hn k hk hφ=> ?_⟩
 subst e1
 cases ad with
 |none=>cases hk
 |some x'=>
  obtain ⟨_,g',l,p,hl,hp,hb⟩:=hspot x' rfl hn
  have hkb:k=p.b:=by
   have:some x'.block=some k:=by simpa [Value.ownBlock] using hk
   cases this;exact hb
  subst hkb
  rcases hl with hl|hl
  ·obtain ⟨cs,ty,fz,_,_,_,_,_,h6',_⟩:=hs.blk g' _ hl p hp
   exact hs.dis g g' _ _ hg hl (fun e=>by rw [e,hl] at hg;cases hg) rfl rfl hm (by rw [hp];rfl) p.b hφ ((h6' _).2 rfl)
  ·have h9:=(hs.blk g' _ hl p hp).1
   have h10:=hs.fresh g _ hg rfl hm p.b hφ
   omega
theorem Bz {O:dH} {h:Hp O.X} (hs:SR O w0 w m φ h) {w':World} (hu:Below w.heap.size w w') {e:TypeId} {v:Value} {n:Nat} {xs:List Value} {ob:Option Nat} (ho:Own w' e 1 v n xs ob) (hf:∀g,ob=some g->w.heap.size<=g)
  {l:List AV} (hl:VRs m l xs) (h1:∀a∈l,a.one=true) (hn:0 < n):
  ∃q S',SR O w0 w' (m.set h.n q) (φ.set h.n S') (h.push (.rw l))/\VR (m.set h.n q) (.slice 1 h.n 0 n none) v:=by
 obtain ⟨hlen,ho⟩:=ho
 rcases ho with ⟨_,rfl,_⟩|⟨g,cap,cur,rfl,rfl,hb,hnc,hcm,hcs,htk⟩
 ·omega
 ·have hll:l.length=n:=by have:=hl.len;omega
  refine ⟨⟨g,0,cap,1⟩,fun k=>k=g,hs.new hu ⟨cur,e,(0,0),hb, .inl rfl,by show cap<=_;omega,by show 0+l.length<=cap;omega,fun i v hi=> ?_,fun k=>Iff.rfl,fun _=>rfl⟩ (fun _ k hk=>by rw [hk];exact hf g rfl), ?_⟩
  ·obtain ⟨v',d1,d2⟩:=hl.get hi
   refine ⟨v', ?_,d2.ext (Mu.iK hs.lK _),h1 _ (List.mem_of_getElem? hi)⟩
   show cur[0+i]?=some v'
   rw [Nat.zero_add,<-Array.getElem?_toList]
   rw [<-htk,List.getElem?_take] at d1
   split at d1
   ·exact d1
   ·cases d1
  ·simp only [VR]
   exact ⟨_,_,cap,Mu.set_self _ _ _,rfl,hnc,hcm,fun _=>by simp,⟨Nat.one_pos,rfl⟩,by simp⟩
theorem Gw {w':World} {e:TypeId} {v:Value} {xs:List Value} {ob:Option Nat} {m:Mu} (ho:Own w' e 1 v 0 xs ob):VR m .bV v:=by
 simp only [VR]
 rcases ho.2 with ⟨rfl,_,_⟩|⟨g,cap,cur,rfl,_,_,_,hcm,_⟩
 ·exact ⟨_,_,rfl,Nat.zero_le _,fun _=>rfl⟩
 ·exact ⟨_,_,rfl,hcm,fun h=>by cases h⟩
end
noncomputable def nV:Fn MD:=fun _ args h=>ar3 args fun d s y=>onS s fun s=>onObj h d fun g x=>match elems h 1 y with
 |some (_,r)=>(match bytesR r with|some b=> .ret (.int .i64 (x.append s b).1) (h.put g (.obj (x.append s b).2))|none=> .bad)
 |none=> .bad
theorem QA:jD Tryz.prog OD 51 nV:=by
 refine ⟨by kernel_rfl,fun {D} hD args h hb {w0 w m φ args'} hs hv=> ?_⟩
 obtain ⟨a,b,c,rfl⟩:=Jl hb
 obtain ⟨s,rfl⟩:=wZ (show onS b _≠ .bad from hb)
 have hb:onObj h a (fun g x=>match elems h 1 c with
  |some (_,r)=>(match bytesR r with|some b=> .ret (.int .i64 (x.append s b).1) (h.put g (.obj (x.append s b).2))|none=> .bad)
  |none=> .bad)≠ .bad:=hb
 obtain ⟨g,x,rfl,hg,hn,he⟩:=nU hb
 rw [he] at hb
 obtain ⟨v,u,y,rfl,h1,h2,h3⟩:=VU hv
 obtain ⟨p,hp,rfl,hps,hrep⟩:=xe hs h1 hg
 simp only [VR] at h2
 subst h2
 cases hel:elems h 1 c with
 |none=>rw [hel] at hb;exact absurd rfl hb
 |some nr=>
  obtain ⟨n,r⟩:=nr
  rw [hel] at hb
  cases hbr:bytesR r with
  |none=>simp only [hbr] at hb;exact absurd rfl hb
  |some bs=>
   obtain ⟨vs,k1,k2,k3,k4⟩:=Qz hs hel h3
   have hvs:=Bv hbr k1
   subst hvs
   have hl:bs.length=n:=by simpa using k2
   subst hl
   refine (Jk hrep hn ⟨s.toArray⟩ y bs k3 (fun h0 k hk=>k4 g x hg (by rw [hp];rfl) h0 k hk)).mono fun e w' hd=> ?_
   show iy OD w0 m h (onObj h (.ptr g 0) fun g x=>match elems h 1 c with
    |some (_,r)=>(match bytesR r with|some b=> .ret (.int .i64 (x.append s b).1) (h.put g (.obj (x.append s b).2))|none=> .bad)
    |none=> .bad) e w'
   rw [he,hel]
   simp only [hbr]
   exact vG hs hp hg hps (by simpa using hd) (by simp [VR])
noncomputable def qX:Fn MD:=fun _ args h=>ar2 args fun d s=>onS s fun s=>onObj h d fun _ x=>match x.get s with
 |none=> .ret (.tup [.ae, .bool false]) h
 |some f=>bif Nat.beq f.b.length 0 then .ret (.tup [.bV, .bool true]) h else .ret (.tup [.slice 1 h.n 0 f.b.length none, .bool true]) (h.push (.rw (f.b.map fun b=> .int .u8 b.toNat)))
theorem Cb {m:Mu}:∀b:Bs,VRs m (b.map fun b=> .int .u8 b.toNat) (b.map bv)
 |[]=>by simp [VRs]
 |x::b=>by simp only [List.map_cons,VRs];exact ⟨_,_,rfl,by simp [VR,bv],Cb b⟩
theorem Y7:jD Tryz.prog OD 116 qX:=by
 refine ⟨by kernel_rfl,fun {D} hD args h hb {w0 w m φ args'} hs hv=> ?_⟩
 obtain ⟨a,b,rfl⟩:=Qv hb
 obtain ⟨s,rfl⟩:=wZ (show onS b _≠ .bad from hb)
 obtain ⟨g,x,rfl,hg,hn,he⟩:=nU (show onObj h a (fun _ x=>match x.get s with
  |none=> .ret (.tup [.ae, .bool false]) h
  |some f=>bif Nat.beq f.b.length 0 then .ret (.tup [.bV, .bool true]) h else .ret (.tup [.slice 1 h.n 0 f.b.length none, .bool true]) (h.push (.rw (f.b.map fun b=> .int .u8 b.toNat))))≠ .bad from hb)
 obtain ⟨v,u,rfl,h1,h2⟩:=Y5 hv
 obtain ⟨p,hp,rfl,hps,hrep⟩:=xe hs h1 hg
 simp only [VR] at h2
 subst h2
 refine (Qo hrep hn ⟨s.toArray⟩).mono fun e w' hd=> ?_
 show iy OD w0 m h (onObj h (.ptr g 0) fun _ x=>match x.get s with
  |none=> .ret (.tup [.ae, .bool false]) h
  |some f=>bif Nat.beq f.b.length 0 then .ret (.tup [.bV, .bool true]) h else .ret (.tup [.slice 1 h.n 0 f.b.length none, .bool true]) (h.push (.rw (f.b.map fun b=> .int .u8 b.toNat)))) e w'
 rw [he]
 have hd:Gu w (x.get s) e w':=by simpa using hd
 cases hf:x.get s with
 |none=>
  rw [hf] at hd
  simp only []
  exact Bq hs hd (by simp [VR,VRs])
 |some f=>
  rw [hf] at hd
  obtain ⟨v,ob,rfl,ho,hbw,hfr⟩:=hd
  simp only []
  cases hz:Nat.beq f.b.length 0 with
  |true=>
   have hz:=Nat.eq_of_beq_eq_true hz
   rw [hz] at ho
   refine ⟨m,φ,_,fun _ _=>rfl,Nat.le_refl _,hs.grow hbw, ?_,rfl⟩
   have:=Gw (m:=m) ho
   simp only [VR,VRs]
   exact ⟨_,rfl,v,_,rfl,by simpa only [VR] using this,_,_,rfl,rfl,rfl⟩
  |false=>
   have hz:0 < f.b.length:=Nat.pos_of_ne_zero fun e=>by rw [e] at hz;cases hz
   obtain ⟨q,S',k1,k2⟩:=Bz hs hbw ho hfr (Cb f.b) (by intro a ha;obtain ⟨b,_,rfl⟩:=List.mem_map.1 ha;rfl) hz
   refine ⟨_,_,_,fun g hg=>by simp [Mu.set];omega,Nat.le_succ _,k1, ?_,rfl⟩
   have k2':=k2
   simp only [VR,VRs] at k2' ⊢
   exact ⟨_,rfl,v,_,rfl,k2',_,_,rfl,rfl,rfl⟩
noncomputable def Gx:Fn MD:=fun _ args h=>ar1 args fun n=>onI n fun n=>
 bif decide (0<=n) && decide (n<=16777216) then .ret (.tup [.ptr h.n 0, .int .i64 0]) (h.push (.obj (MD.new n))) else .ret (.tup [.bU, .int .i64 1]) h
theorem aaA:jD Tryz.prog OD 70 Gx:=by
 refine ⟨by kernel_rfl,fun {D} hD args h hb {w0 w m φ args'} hs hv=> ?_⟩
 obtain ⟨a,rfl⟩:=Qu hb
 obtain ⟨n,rfl⟩:=Qs (show onI a _≠ .bad from hb)
 obtain ⟨v,rfl,h1⟩:=aay hv
 simp only [VR] at h1
 subst h1
 show Calls Tryz.prog 70 #[.int .i64 n] w (iy OD w0 m h (bif decide (0<=n) && decide (n<=16777216) then .ret (.tup [.ptr h.n 0, .int .i64 0]) (h.push (.obj (MD.new n))) else .ret (.tup [.bU, .int .i64 1]) h))
 cases hc:decide (0<=n) && decide (n<=16777216) with
 |true=>
  have hc:0<=n/\n<=16777216:=by simpa using hc
  refine (Y4 n w hc.1 hc.2).mono fun e w' hd=> ?_
  obtain ⟨d,S,rfl,k1,k2,k3⟩:=hd
  have hn:=hs.new (c':= .obj (MD.new n)) (q:=⟨d,0,0,0⟩) (S':=S) k2 ⟨rfl,k1⟩ (fun _=>k3)
  refine ⟨_,_,_,fun g hg=>by simp [Mu.set];omega,Nat.le_succ _,hn, ?_,rfl⟩
  simp only [VR,VRs]
  exact ⟨_,rfl,_,_,rfl,⟨_,Mu.set_self _ _ _,rfl⟩,_,_,rfl,rfl,rfl⟩
 |false=>
  have hc:n < 0\/16777216 < n:=by
   simp at hc
   omega
  refine (VP n w hc).mono fun e w' hd=> ?_
  exact Bq hs hd (by simp [VR,VRs])
noncomputable def vH:Fn MD:=fun _ args h=>ar1 args fun d=>onObj h d fun _ x=>
 bif Nat.beq x.fs.length 0 then .ret .bV h else .ret (.slice 1 h.n 0 x.fs.length none) (h.push (.rw (x.fs.map fun f=> .str f.name)))
theorem Cc {m:Mu}:∀l:List MF,VRs m (l.map fun f=> .str f.name) (l.map fun f=>VT f.name)
 |[]=>by simp [VRs]
 |x::l=>by simp only [List.map_cons,VRs];exact ⟨_,_,rfl,by simp [VR,VT,bsv],Cc l⟩
theorem VV:jD Tryz.prog OD 49 vH:=by
 refine ⟨by kernel_rfl,fun {D} hD args h hb {w0 w m φ args'} hs hv=> ?_⟩
 obtain ⟨a,rfl⟩:=Qu hb
 obtain ⟨g,x,rfl,hg,hn,he⟩:=nU (show onObj h a (fun _ x=>
  bif Nat.beq x.fs.length 0 then .ret .bV h else .ret (.slice 1 h.n 0 x.fs.length none) (h.push (.rw (x.fs.map fun f=> .str f.name))))≠ .bad from hb)
 obtain ⟨v,rfl,h1⟩:=aay hv
 obtain ⟨p,hp,rfl,hps,hrep⟩:=xe hs h1 hg
 refine (NL hrep hn).mono fun e w' hd=> ?_
 show iy OD w0 m h (onObj h (.ptr g 0) fun _ x=>
  bif Nat.beq x.fs.length 0 then .ret .bV h else .ret (.slice 1 h.n 0 x.fs.length none) (h.push (.rw (x.fs.map fun f=> .str f.name)))) e w'
 rw [he]
 obtain ⟨v,ob,rfl,ho,hbw,hfr⟩:=hd
 cases hz:Nat.beq x.fs.length 0 with
 |true=>
  have hz:=Nat.eq_of_beq_eq_true hz
  rw [hz] at ho
  exact ⟨m,φ,v,fun _ _=>rfl,Nat.le_refl _,hs.grow hbw,Gw ho,rfl⟩
 |false=>
  have hz:0 < x.fs.length:=Nat.pos_of_ne_zero fun e=>by rw [e] at hz;cases hz
  obtain ⟨q,S',k1,k2⟩:=Bz hs hbw ho hfr (Cc x.fs) (by intro a ha;obtain ⟨b,_,rfl⟩:=List.mem_map.1 ha;rfl) hz
  exact ⟨_,_,v,fun g hg=>by simp [Mu.set];omega,Nat.le_succ _,k1,k2,rfl⟩
end Am
end Go.Proofs.YtbnkdnlfdofepaaGreat
