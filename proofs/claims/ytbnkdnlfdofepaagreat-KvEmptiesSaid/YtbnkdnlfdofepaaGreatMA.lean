/- Base words of these proofs: what a call may have turned ('Upd'), a slice that is owned ('Own'), a slice that is read ('Rd'), a block known whole; of no program. Laws of the builtins append, copy, clear at slices of whatever element, in the words of Base; of no program. The plain machine: values whose places are named by numbers of their own, a heap of them, and how they stand for the model. The plain machine's heap, and when a world is one of it. The plain machine's operations that leave the heap alone: what they give. The plain machine: frames, and the operations that leave the heap alone. Th -/
import Derived.WalkKit
import Derived.WalkSpells
import Derived.WalkLawsBesides
import Derived.Handy
import Derived.ArgAppend
import Derived.Laws.CopyOwn
import Derived.Deep.QuietTactic
import Derived.BigQuiet
import Derived.Lib.Hide
import Derived.Lib.Bytealg
import Derived.Lib.AppendZeros
import Derived.Laws.StructEq
set_option linter.unusedVariables false
set_option linter.unusedSimpArgs false
namespace Go.Proofs.YtbnkdnlfdofepaaGreat
open Go.RowKit
theorem abE {k:IntKind} {a b:Int} (h:a=b):Value.int k a= .int k b:=by rw [h]
structure Upd (S:Nat->Prop) (w w':World):Prop where
 os:w'.os=w.os
 tape:w'.tape=w.tape
 output:w'.output=w.output
 size:w.heap.size<=w'.heap.size
 block:∀k,k < w.heap.size->¬S k->w'.heap[k]?=w.heap[k]?
def dG:Nat->Prop:=fun _=>False
namespace Upd
theorem refl (S:Nat->Prop) (w:World):Upd S w w:=⟨rfl,rfl,rfl,Nat.le_refl _,fun _ _ _=>rfl⟩
theorem trans {S T:Nat->Prop} {a b c:World} (h:Upd S a b) (k:Upd T b c) (hT:∀i,T i->S i\/a.heap.size<=i):Upd S a c:=
 ⟨k.os.trans h.os,k.tape.trans h.tape,k.output.trans h.output,Nat.le_trans h.size k.size,
  fun i hi hs=>(k.block i (Nat.lt_of_lt_of_le hi h.size) (fun ht=>by rcases hT i ht with h'|h';exact hs h';omega)).trans (h.block i hi hs)⟩
theorem mono {S T:Nat->Prop} {a b:World} (h:Upd S a b) (hT:∀i,S i->T i\/a.heap.size<=i):Upd T a b:=
 ⟨h.os,h.tape,h.output,h.size,fun i hi ht=>h.block i hi (fun hs=>by rcases hT i hs with h'|h';exact ht h';omega)⟩
theorem drew {S:Nat->Prop} {a w:World} (h:Upd S a w):Upd S a w.drew:=⟨h.os,h.tape,h.output,h.size,h.block⟩
theorem drewN {S:Nat->Prop} {a w:World} (h:Upd S a w) (n:Nat):Upd S a (w.drewN n):=⟨h.os,h.tape,h.output,h.size,h.block⟩
theorem alloc {S:Nat->Prop} {a w:World} (h:Upd S a w) (o:Obj):Upd S a (w.alloc o):=
 ⟨h.os,h.tape,h.output,Nat.le_trans h.size (by simp),fun k hk hs=>(Below.heap_alloc _ _ _ (Nat.lt_of_lt_of_le hk h.size)).trans (h.block k hk hs)⟩
theorem setCell {S:Nat->Prop} {a w:World} (h:Upd S a w) {p:Addr} (hp:S p.block\/a.heap.size<=p.block) (u:Value):Upd S a (w.setCell p u):=
 ⟨h.os,h.tape,h.output,by simpa using h.size,fun k hk hs=>(Below.heap_setCell _ _ _ _ (fun e=>by subst e;rcases hp with h'|h';exact hs h';omega)).trans (h.block k hk hs)⟩
theorem of_below {S:Nat->Prop} {w w':World} (h:Below w.heap.size w w'):Upd S w w':=⟨h.os,h.tape,h.output,h.size,fun k hk _=>h.block k hk⟩
theorem below {S:Nat->Prop} {w w':World} (h:Upd S w w') (hS:∀i,i < w.heap.size->¬S i):Below w.heap.size w w':=⟨h.os,h.tape,h.output,h.size,fun k hk=>h.block k hk (hS k hk)⟩
theorem toBelow {w w':World} (h:Upd dG w w'):Below w.heap.size w w':=h.below (fun _ _ h=>h)
theorem cell {S:Nat->Prop} {w w':World} (h:Upd S w w') {p:Addr} (hp:p.block < w.heap.size) (hs:¬S p.block):w'.cell? p=w.cell? p:=World.cell?_of_block (w:=w) (h.block p.block hp hs)
end Upd
def Blk (w:World) (b:Nat) (cs:Array Value) (e:TypeId):Prop:=w.heap[b]?=some (.cells cs e (0,0))
namespace Blk
theorem lt {w:World} {b:Nat} {cs:Array Value} {e:TypeId} (h:Blk w b cs e):b < w.heap.size:=lt_of_block h
theorem cell {w:World} {b:Nat} {cs:Array Value} {e:TypeId} (h:Blk w b cs e) (i:Nat):w.cell? ⟨b,i,none⟩=cs[i]?:=by
 unfold Blk at h;simp [World.cell?,h]
theorem frozen {w:World} {b:Nat} {cs:Array Value} {e:TypeId} (h:Blk w b cs e) (i:Nat):w.frozen? ⟨b,i,none⟩=false:=by
 unfold Blk at h;simp [World.frozen?,h]
theorem drew {w:World} {b:Nat} {cs:Array Value} {e:TypeId} (h:Blk w b cs e):Blk w.drew b cs e:=h
theorem drewN {w:World} {b:Nat} {cs:Array Value} {e:TypeId} (h:Blk w b cs e) (n:Nat):Blk (w.drewN n) b cs e:=h
theorem alloc {w:World} {b:Nat} {cs:Array Value} {e:TypeId} (h:Blk w b cs e) (o:Obj):Blk (w.alloc o) b cs e:=(Below.heap_alloc w o b h.lt).trans h
theorem new (w:World) (cs:Array Value) (e:TypeId):Blk (w.alloc (.cells cs e)) w.heap.size cs e:=heap_alloc_new w _
theorem setOther {w:World} {b:Nat} {cs:Array Value} {e:TypeId} (h:Blk w b cs e) {a:Addr} (ha:a.block≠b) (u:Value):Blk (w.setCell a u) b cs e:=
 (Below.heap_setCell w a u b (fun h'=>ha h'.symm)).trans h
theorem set {w:World} {b:Nat} {cs:Array Value} {e:TypeId} (h:Blk w b cs e) (i:Nat) (u:Value):Blk (w.setCell ⟨b,i,none⟩ u) b (cs.setIfInBounds i u) e:=by
 have hlt:=h.lt
 unfold Blk at h ⊢
 have h':w.heap[b]= .cells cs e (0,0):=by simpa [Array.getElem?_eq_getElem hlt] using h
 show (w.heap.modify b _)[b]?=_
 rw [Array.getElem?_eq_getElem (by simpa using hlt),Array.getElem_modify_self,h']
 rfl
theorem same {w w':World} {b:Nat} {cs:Array Value} {e:TypeId} (h:Blk w b cs e) (hs:w'.heap[b]?=w.heap[b]?):Blk w' b cs e:=hs.trans h
theorem upd {S:Nat->Prop} {w w':World} {b:Nat} {cs:Array Value} {e:TypeId} (h:Blk w b cs e) (hu:Upd S w w') (hs:¬S b):Blk w' b cs e:=h.same (hu.block b h.lt hs)
theorem below {w w':World} {b:Nat} {cs:Array Value} {e:TypeId} (h:Blk w b cs e) (hu:Below w.heap.size w w'):Blk w' b cs e:=h.same (hu.block b h.lt)
theorem setRow {w:World} {b:Nat} {cs:Array Value} {e:TypeId} (h:Blk w b cs e) (ds:Array Value):Blk (w.setRow b ds) b ds e:=setRow_heap w b cs ds e _ h
theorem shape {w:World} {b:Nat} {cs:Array Value} {e:TypeId} (h:Blk w b cs e):w.shape? b=some (e,cs.size):=by unfold Blk at h;simp [World.shape?,h]
theorem ty {w:World} {b c:Nat} {cs ds:Array Value} {e f:TypeId} (h:Blk w b cs e) (k:Blk w c ds f) (hne:e≠f):b≠c:=by
 intro hbc;subst hbc;unfold Blk at h k;rw [h] at k;simp only [Option.some.injEq,Obj.cells.injEq] at k;exact hne k.2.1
end Blk
def Own (w:World) (e:TypeId) (size:Nat) (v:Value) (n:Nat) (xs:List Value) (ob:Option Nat):Prop:=
 xs.length=n*size/\
 (
   (v= .slice none 0 0/\n=0/\ob=none)\/
   ∃g cap cur,v= .slice (some ⟨g,0,none⟩) n cap/\ob=some g/\Blk w g cur e/\n<=cap/\cap<=maxLen/\cap*size<=cur.size/\cur.toList.take (n*size)=xs)
def Rd (w:World) (size:Nat) (v:Value) (n:Nat) (xs:List Value):Prop:=
 xs.length=n*size/\n<=maxLen/\∃a c,v= .slice a n c/\n<=c/\c<=maxLen/\(a=none->n=0/\c=0)/\∀ad,a=some ad->(0 < n->ad.spot=none)/\∀j u,xs[j]?=some u->w.cell? (ad.add j)=some u
namespace Own
variable {w:World} {e:TypeId} {size n:Nat} {v:Value} {xs:List Value} {ob:Option Nat}
theorem nil (w:World) (e:TypeId) (size:Nat):Own w e size (.slice none 0 0) 0 [] none:=⟨by simp, .inl ⟨rfl,rfl,rfl⟩⟩
theorem len (h:Own w e size v n xs ob):xs.length=n*size:=h.1
theorem lt (h:Own w e size v n xs ob):∀g,ob=some g->g < w.heap.size:=by
 intro g hg
 rcases h.2 with ⟨_,_,rfl⟩|⟨g',_,_,_,rfl,hb,_⟩
 ·cases hg
 ·cases hg;exact hb.lt
theorem same {w':World} (h:Own w e size v n xs ob) (hs:∀g,ob=some g->w'.heap[g]?=w.heap[g]?):Own w' e size v n xs ob:=by
 refine ⟨h.1, ?_⟩
 rcases h.2 with h'|⟨g,cap,cur,hv,hob,hb,r⟩
 ·exact .inl h'
 ·exact .inr ⟨g,cap,cur,hv,hob,hb.same (hs g hob),r⟩
theorem upd {S:Nat->Prop} {w':World} (h:Own w e size v n xs ob) (hu:Upd S w w') (hs:∀g,ob=some g->¬S g):Own w' e size v n xs ob:=
 h.same fun g hg=>hu.block g (h.lt g hg) (hs g hg)
theorem below {w':World} (h:Own w e size v n xs ob) (hu:Below w.heap.size w w'):Own w' e size v n xs ob:=h.same fun g hg=>hu.block g (h.lt g hg)
theorem drewN (h:Own w e size v n xs ob) (k:Nat):Own (w.drewN k) e size v n xs ob:=h
theorem alloc (h:Own w e size v n xs ob) (o:Obj):Own (w.alloc o) e size v n xs ob:=h.same fun g hg=>Below.heap_alloc w o g (h.lt g hg)
theorem setOther (h:Own w e size v n xs ob) {a:Addr} (ha:ob≠some a.block) (u:Value):Own (w.setCell a u) e size v n xs ob:=
 h.same fun g hg=>Below.heap_setCell w a u g (fun e=>ha (by rw [hg,e]))
theorem block (h:Own w e size v n xs ob):v.ownBlock=ob:=by
 rcases h.2 with ⟨rfl,_,rfl⟩|⟨g,cap,cur,rfl,rfl,_⟩<;>rfl
theorem rd (h:Own w e size v n xs ob):Rd w size v n xs:=by
 refine ⟨h.1, ?_⟩
 rcases h.2 with ⟨rfl,rfl,_⟩|⟨g,cap,cur,rfl,_,hb,h1,h2,h3,h4⟩
 ·exact ⟨by unfold maxLen;omega,none,0,rfl,Nat.le_refl _,by unfold maxLen;omega,fun _=>⟨rfl,rfl⟩,fun _ h=>by cases h⟩
 ·refine ⟨by omega,some ⟨g,0,none⟩,cap,rfl,h1,h2,(fun h=>by cases h),fun ad had=> ?_⟩
  cases had
  refine ⟨fun _=>rfl,fun j u hu=> ?_⟩
  have:(⟨g,0,none⟩:Addr).add j=⟨g,j,none⟩:=by unfold Addr.add;split<;>simp_all
  rw [this,hb.cell]
  rw [<-h4,List.getElem?_take] at hu
  split at hu
  ·simpa using hu
  ·cases hu
theorem x8 (h:Own w e size v n xs ob) (hn:0 < n):∃g cap cur,v= .slice (some ⟨g,0,none⟩) n cap/\ob=some g/\Blk w g cur e/\n<=cap/\cap<=maxLen/\cap*size<=cur.size/\cur.toList.take (n*size)=xs:=by
 rcases h.2 with ⟨_,h',_⟩|h'
 ·omega
 ·exact h'
end Own
def yJ (w:World) (e:TypeId) (size n:Nat) (xs:List Value) (ob:Option Nat) (en:Ending) (w':World):Prop:=
 ∃v' ob',en= .returned v'/\Own w' e size v' n xs ob'/\Upd (fun k=>ob=some k) w w'/\(ob'=ob\/∀g,ob'=some g->w.heap.size<=g)
namespace Rd
variable {w:World} {size n:Nat} {v:Value} {xs:List Value}
theorem len (h:Rd w size v n xs):xs.length=n*size:=h.1
theorem same {w':World} (h:Rd w size v n xs) (hs:∀g,v.ownBlock=some g->w'.heap[g]?=w.heap[g]?):Rd w' size v n xs:=by
 obtain ⟨h1,h2,a,c,rfl,h3,h4,h5,h6⟩:=h
 refine ⟨h1,h2,a,c,rfl,h3,h4,h5,fun ad had=> ?_⟩
 obtain ⟨hsp,hc⟩:=h6 ad had
 subst had
 refine ⟨hsp,fun j u hu=> ?_⟩
 rw [World.cell?_of_block (w:=w)]
 ·exact hc j u hu
 ·refine hs _ ?_
  show some ad.block=_
  unfold Addr.add;split<;>rfl
theorem drewN (h:Rd w size v n xs) (k:Nat):Rd (w.drewN k) size v n xs:=h
theorem pos (h:Rd w size v n xs) {j:Nat} {u:Value} (hu:xs[j]?=some u):0 < n:=by
 have h1:=(List.getElem?_eq_some_iff.1 hu).1
 rcases Nat.eq_zero_or_pos n with h0|h0
 ·subst h0;rw [h.1,Nat.zero_mul] at h1;omega
 ·exact h0
theorem upd {S:Nat->Prop} {w':World} (h:Rd w size v n xs) (hu:Upd S w w') (hs:0 < n->∀g,v.ownBlock=some g->¬S g):Rd w' size v n xs:=by
 have hpos:=fun {j:Nat} {u:Value}=>h.pos (j:=j) (u:=u)
 obtain ⟨h1,h2,a,c,rfl,h3,h4,h5,h6⟩:=h
 refine ⟨h1,h2,a,c,rfl,h3,h4,h5,fun ad had=> ?_⟩
 obtain ⟨hsp,hc⟩:=h6 ad had
 subst had
 refine ⟨hsp,fun j u hu'=> ?_⟩
 have hcell:=hc j u hu'
 have hb:(ad.add j).block=ad.block:=by unfold Addr.add;split<;>rfl
 have hlt:=World.block_lt_of_cell? w _ hcell
 rw [hu.cell hlt (by rw [hb];exact hs (hpos hu') _ rfl)]
 exact hcell
theorem below {w':World} (h:Rd w size v n xs) (hu:Below w.heap.size w w'):Rd w' size v n xs:=h.upd (S:=dG) (Upd.of_below hu) (fun _ _ _ h=>h)
theorem alloc (h:Rd w size v n xs) (o:Obj):Rd (w.alloc o) size v n xs:=h.upd (S:=dG) ((Upd.refl _ _).alloc o) (fun _ _ _ h=>h)
theorem cell (h:Rd w size v n xs) {ad:Addr} {c:Nat} (hv:v= .slice (some ad) n c) {j:Nat} {u:Value} (hu:xs[j]?=some u):w.cell? ⟨ad.block,ad.off+j,none⟩=some u:=by
 obtain ⟨hlen,_,a,c',hv',_,_,_,h6⟩:=h
 rw [hv] at hv'
 cases hv'
 obtain ⟨hsp,hc⟩:=h6 ad rfl
 have:=hc j u hu
 have hn:0 < n:=by
  have h1:=(List.getElem?_eq_some_iff.1 hu).1
  rcases Nat.eq_zero_or_pos n with h0|h0
  ·subst h0;rw [hlen,Nat.zero_mul] at h1;omega
  ·exact h0
 obtain ⟨b,o,s⟩:=ad
 obtain rfl:s=none:=hsp hn
 rw [Addr.add_lit] at this
 exact this
end Rd
abbrev Bs:=List UInt8
def bv (x:UInt8):Value:= .int .u8 x.toNat
def bsv (l:Bs):ByteArray:=⟨l.toArray⟩
@[simp,go_sem] theorem bsv_toList (l:Bs):(bsv l).toList=l:=ByteArray.toList_mk l
end Go.Proofs.YtbnkdnlfdofepaaGreat
namespace Go.Proofs.YtbnkdnlfdofepaaGreat
open Go.RowKit
theorem UX {w:World} {b:Nat} {x:Value} {e:TypeId} (h:Blk w b #[x] e):Own w e 1 (.slice (some ⟨b,0,none⟩) 1 1) 1 [x] (some b):=
 ⟨by simp, .inr ⟨b,1,_,rfl,rfl,h,Nat.le_refl _,by unfold maxLen;omega,by simp,by simp⟩⟩
theorem nI {w0 w w':World} (h:Below w0.heap.size w0 w) {T:Nat->Prop} (hu:Upd T w w') (h2:∀b,T b->w0.heap.size<=b):Below w0.heap.size w0 w':=
 Upd.toBelow ((Upd.of_below (S:=dG) h).trans hu (fun b hb=> .inr (h2 b hb)))
theorem Yo {w:World} {b:Nat} {x:Value} {e:TypeId} (h:Blk w b #[x] e):Rd w 1 (.slice (some ⟨b,0,none⟩) 1 1) 1 [x]:=(UX h).rd
theorem PE {ob ob':Option Nat} {n k:Nat} (h:ob'=ob\/∀g,ob'=some g->k<=g) (h1:∀g,ob=some g->n<=g) (hk:n<=k):∀g,ob'=some g->n<=g:=by
 intro g hg
 rcases h with h|h
 ·exact h1 g (by rw [<-h,hg])
 ·exact Nat.le_trans hk (h g hg)
theorem IK {P:Program} {ops:Array Oper} {Q:Exit->Act->World->Prop} {op:Op} {ty:TypeId} {pos:String} {af:Array Edge} {gu:Option (Nat×Bool)} {rest:List Oper} {a:Act} {w:World} (d:Tmp)
  (h:wpList P ops Q (⟨some d,op,ty,pos,af,gu⟩::rest) a w):wpList P ops Q (⟨some d,op,ty,pos,af,gu⟩::rest) a w:=h
theorem FB {P:Program} {ops:Array Oper} {Q:Exit->Act->World->Prop} {ar:Array Operand} {at_:Array TypeId} {ty:TypeId} {pos:String} {af:Array Edge} {gu:Option (Nat×Bool)} {rest:List Oper} {a:Act} {w:World}
  (h:wpList P ops Q (⟨none, .call {callee:= .builtin .clear,args:=ar,argTypes:=at_},ty,pos,af,gu⟩::rest) a w):wpList P ops Q (⟨none, .call {callee:= .builtin .clear,args:=ar,argTypes:=at_},ty,pos,af,gu⟩::rest) a w:=h
section
variable {P:Program} (w:World)
theorem yK (t ty e:TypeId) (i:TypeInfo) (z:Value) (size bytes:Nat) (ht:P.underlying t=some (.slice e)) (hi:P.info? e=some i) (hz:i.zero=some z)
  (hsize:i.size=size) (hby:i.bytes=bytes) (hzs:z.cells.size=size) (hsz:0 < size)
  (v:Value) (n:Nat) (xs:List Value) (ob:Option Nat) (hown:Own w e size v n xs ob)
  (x:Value) (m:Nat) (news:List Value) (hx:Rd w size x m news) (h1:∀u∈news,u.oneCell'=true)
  (h63:n+m<=maxLen) (hbytes:(n+m)*bytes<=140737488355328):
  ∃v' w' ob',(Builtin.append_ #[t,t] ty #[v,x]).run P w= .ok v' w'/\Own w' e size v' (n+m) (xs++news) ob'/\Upd (fun b=>ob=some b) w w'/\
   (ob'=ob\/∀g,ob'=some g->w.heap.size<=g):=by
 subst hsize
 subst hby
 have hsmall:n+m<=9223372036854775807:=by simp only [maxLen] at h63;omega
 obtain ⟨hl,hmm,ax,c,rfl,hmc,hcm',hnone,hcells⟩:=hx
 have hlen:(xs++news).length=(n+m)*i.size:=by rw [List.length_append,hown.1,hl,Nat.add_mul]
 have grown:∀(old:Nat),old < n+m->
   Own (w.drew.alloc (.cells (xs.toArray++news.toArray++Builtin.zeroCells z.cells (grownCap w (n+m) old e - (n+m))) e)) e i.size
    (.slice (some ⟨w.heap.size,0,none⟩) (n+m) (grownCap w (n+m) old e)) (n+m) (xs++news) (some w.heap.size):=by
  intro old ho
  have hge:=grownCap_ge w (n+m) old e
  have hcm:grownCap w (n+m) old e<=maxLen:=grownCap_le_maxLen w (n+m) old e h63
  refine ⟨hlen, .inr ⟨w.heap.size,_,_,rfl,rfl,heap_alloc_new w.drew _,hge,hcm, ?_, ?_⟩⟩
  ·have he:(xs.toArray++news.toArray++Builtin.zeroCells z.cells (grownCap w (n+m) old e - (n+m))).size=grownCap w (n+m) old e*i.size:=by
    simp only [Array.size_append,List.size_toArray,size_zeroCells,hzs,hown.1,hl,<-Nat.add_mul]
    congr 1
    omega
   omega
  ·simp only [Array.toList_append,List.append_assoc]
   rw [<-List.append_assoc,<-hlen]
   exact List.take_left
 have PG:∀(C:Array Value),Upd (fun b=>ob=some b) w (w.drew.alloc (.cells C e)):=fun C=>((Upd.refl _ _).drew).alloc _
 by_cases hm:m=0
 ·subst hm
  have hn:news=[]:=List.eq_nil_of_length_eq_zero (by simpa using hl)
  subst hn
  refine ⟨v,w,ob, ?_,by simpa using hown,Upd.refl _ _, .inl rfl⟩
  have hfc:(Builtin.firstCells i.size 0 (.slice ax 0 c)).run P w= .ok #[] w:=by
   cases ax<;>simp [Builtin.firstCells,loadCells,loadCellsFrom]
  rcases hown.2 with ⟨rfl,rfl,rfl⟩|⟨g,cap,cur,rfl,rfl,hg,hnc,hcm,hcs,htake⟩
  ·simp [Builtin.append_,run_underlying ht,sizeOf,typeInfo,hi,Builtin.lenOf,hfc]
  ·simp [Builtin.append_,run_underlying ht,sizeOf,typeInfo,hi,Builtin.lenOf,hfc,hnc,storeCells]
 ·cases ax with
  |none=>exact absurd (hnone rfl).1 hm
  |some a=>
   have hnews:∀j u,news[j]?=some u->w.cell? (a.add j)=some u:=(hcells a rfl).2
   rcases hown.2 with ⟨rfl,rfl,rfl⟩|⟨g,cap,cur,rfl,rfl,hg,hnc,hcm,hcs,htake⟩
   ·have hx:xs=[]:=List.eq_nil_of_length_eq_zero (by simpa using hown.1)
    subst hx
    have hr:=run_append_nil (P:=P) w t ty e i z ht hi hz a m c news hl hnews (by omega) (by omega) (by have hb:=hbytes;simp only [Nat.zero_add] at hb;omega)
    have hgr:=grown 0 (by omega)
    simp only [Nat.zero_add,List.nil_append,Array.empty_append] at hgr ⊢
    exact ⟨_,_,_,hr,hgr,PG _, .inr fun g hg=>by cases hg;exact Nat.le_refl _⟩
   ·by_cases hroom:n+m<=cap
    ·have hfit:n*i.size+news.length<=cur.size:=by
      rw [hl,<-Nat.add_mul];exact Nat.le_trans (Nat.mul_le_mul_right _ hroom) hcs
     have hr:=run_append_room (P:=P) w t ty e i ht hi g n cap cur hg a m c news hl hnews h1 hroom hfit
     refine ⟨_,_,some g,hr,⟨hlen, .inr ⟨g,cap,_,rfl,rfl,setRow_heap w g cur _ e _ hg,hroom,hcm, ?_, ?_⟩⟩,⟨rfl,rfl,rfl,by simp [World.setRow],fun k hk hs=>setRow_other w g k _ (fun e=>hs (by rw [e]))⟩, .inl rfl⟩
     ·simp only [List.size_toArray,List.length_append,List.length_take,List.length_drop,Array.length_toList]
      omega
     ·rw [htake,<-hlen]
      exact List.take_left
    ·have holds:∀j u,xs[j]?=some u->w.cell? ((⟨g,0,none⟩:Addr).add j)=some u:=by
      obtain ⟨_,_,a0,c0,hv,_,_,_,h6⟩:=hown.rd
      cases hv
      exact (h6 _ rfl).2
     have hr:=run_append_grow (P:=P) w t ty e i z ht hi hz ⟨g,0,none⟩ n cap xs hown.1 holds a m c news hl hnews (by omega) (by omega) (growslice_fits (by omega) hbytes)
     exact ⟨_,_,_,hr,grown cap (by omega),PG _, .inr fun g hg=>by cases hg;exact Nat.le_refl _⟩
end
section
variable {P:Program} {w:World} {ops:Array Oper} {rest:List Oper} {o:Oper} {a:Act} {Q:Exit->Act->World->Prop} {K:Act->World->Prop}
theorem Nj (s x:Operand) (t:TypeId) (ho:o.op= .call {callee:= .builtin .append,args:= #[s,x],argTypes:= #[t,t]})
  (e:TypeId) (size bytes:Nat) (z:Value) (ht:P.underlying t=some (.slice e)) (hi:(P.info? e).map (fun i=>(i.zero,i.size,i.bytes))=some (some z,size,bytes))
  (hzs:z.cells.size=size) (hsz:0 < size)
  (n:Nat) (xs:List Value) (ob:Option Nat) (hown:Own w e size (a.eval s) n xs ob) (m:Nat) (news:List Value) (hx:Rd w size (a.eval x) m news) (h1:∀u∈news,u.oneCell'=true)
  (h63:n+m<=maxLen) (hbytes:(n+m)*bytes<=140737488355328)
  (h:∀v' w' ob',Own w' e size v' (n+m) (xs++news) ob'->Upd (fun b=>ob=some b) w w'->(ob'=ob\/∀g,ob'=some g->w.heap.size<=g)->K (a.put o.dst v') w'):o.wp P a w K Q:=by
 obtain ⟨i,hi',hz,hs,hb⟩:=info_parts hi
 obtain ⟨v',w',ob',hr,h2,h3,h4⟩:=yK (P:=P) w t o.type e i z size bytes ht hi' hz hs hb hzs hsz _ n xs ob hown _ m news hx h1 h63 hbytes
 unfold Oper.wp execOp
 simp only [ho,resolve,invoke,builtin,Sem.run_bind,Sem.run_pure,Result.andThen_ok,List.map_toArray,List.map_cons,List.map_nil,hr]
 exact h v' w' ob' h2 h3 h4
theorem jM (hgd:o.guard=none) (s x:Operand) (t:TypeId) (ho:o.op= .call {callee:= .builtin .append,args:= #[s,x],argTypes:= #[t,t]})
  (e:TypeId) (size bytes:Nat) (z:Value) (ht:P.underlying t=some (.slice e)) (hi:(P.info? e).map (fun i=>(i.zero,i.size,i.bytes))=some (some z,size,bytes))
  (hzs:z.cells.size=size) (hsz:0 < size)
  (n:Nat) (xs:List Value) (ob:Option Nat) (hown:Own w e size (a.eval s) n xs ob) (m:Nat) (news:List Value) (hx:Rd w size (a.eval x) m news) (h1:∀u∈news,u.oneCell'=true)
  (h63:n+m<=maxLen) (hbytes:(n+m)*bytes<=140737488355328)
  (h:∀v' w' ob',Own w' e size v' (n+m) (xs++news) ob'->Upd (fun b=>ob=some b) w w'->(ob'=ob\/∀g,ob'=some g->w.heap.size<=g)->wpList P ops Q rest (a.put o.dst v') w'):
  wpList P ops Q (o::rest) a w:=
 wpList_plain hgd fun _ hK=>Nj s x t ho e size bytes z ht hi hzs hsz n xs ob hown m news hx h1 h63 hbytes fun v' w' ob' h2 h3 h4=>hK _ _ (h v' w' ob' h2 h3 h4)
theorem Dw (w:World) (dT sT ty e:TypeId) (size:Nat) (hu:P.underlying dT=some (.slice e)) (hs:(P.info? e).map (·.size)=some size)
  (dp:Option Addr) (dLen dCap:Nat) (sp:Option Addr) (sLen sCap:Nat) (g off:Nat) (cur:Array Value) (t:TypeId) (hg:Blk w g cur t) (cs:List Value)
  (hn:cs.length=Nat.min sLen dLen*size) (hsz:0 < size)
  (hpos:0 < Nat.min sLen dLen->dp=some ⟨g,off,none⟩/\∃ad,sp=some ad/\∀j v,cs[j]?=some v->w.cell? (ad.add j)=some v)
  (hfit:off+cs.length<=cur.size) (h1:∀v∈cs,v.oneCell'=true):
  ∃w',(Builtin.copy_ #[dT,sT] ty #[.slice dp dLen dCap, .slice sp sLen sCap]).run P w= .ok (goInt (Nat.min sLen dLen)) w'/\Blk w' g (cur.toList.take off++(cs++cur.toList.drop (off+cs.length))).toArray t/\Upd (fun b=>b=g) w w':=by
 obtain ⟨i,hi,hsi⟩:=Option.map_eq_some_iff.1 hs
 by_cases h0:Nat.min sLen dLen=0
 ·have hcs:cs=[]:=List.eq_nil_of_length_eq_zero (by rw [hn,h0,Nat.zero_mul])
  subst hcs
  refine ⟨w, ?_,by simpa using hg,Upd.refl _ _⟩
  have hfc:(Builtin.firstCells i.size 0 (.slice sp sLen sCap)).run P w= .ok #[] w:=by
   cases sp<;>simp [Builtin.firstCells,loadCells,loadCellsFrom]
  cases dp<;>simp [Builtin.copy_,run_underlying hu,sizeOf,typeInfo,hi,Builtin.lenOf,h0,hfc,storeCells]
 ·obtain ⟨rfl,ad,rfl,hsrc⟩:=hpos (by omega)
  have hf:=run_firstCells_some (P:=P) w size (Nat.min sLen dLen) ad sLen sCap cs hn hsrc
  have hst:=run_storeCells_at P g off t cs 0 cur w hg (by simpa using hfit) h1
  simp only [Nat.add_zero] at hst
  rw [List.append_assoc] at hst
  refine ⟨w.setRow g (cur.toList.take off++(cs++cur.toList.drop (off+cs.length))).toArray, ?_,hg.setRow _,⟨rfl,rfl,rfl,by simp [World.setRow],fun k hk hs=>setRow_other w g k _ hs⟩⟩
  simp [Builtin.copy_,run_underlying hu,sizeOf,typeInfo,hi,hsi,Builtin.lenOf,hf,hst]
theorem KQ (d s:Operand) (dT sT:TypeId) (ho:o.op= .call {callee:= .builtin .copy,args:= #[d,s],argTypes:= #[dT,sT]}) (e:TypeId) (size:Nat)
  (hu:P.underlying dT=some (.slice e)) (hs:(P.info? e).map (·.size)=some size) (hsz:0 < size)
  (dp:Option Addr) (dLen dCap:Nat) (hd:a.eval d= .slice dp dLen dCap) (sp:Option Addr) (sLen sCap:Nat) (hsv:a.eval s= .slice sp sLen sCap)
  (g off:Nat) (cur:Array Value) (t:TypeId) (hg:Blk w g cur t) (cs:List Value) (hn:cs.length=Nat.min sLen dLen*size)
  (hpos:0 < Nat.min sLen dLen->dp=some ⟨g,off,none⟩/\∃ad,sp=some ad/\∀j v,cs[j]?=some v->w.cell? (ad.add j)=some v)
  (hfit:off+cs.length<=cur.size) (h1:∀v∈cs,v.oneCell'=true)
  (h:∀w',Blk w' g (cur.toList.take off++(cs++cur.toList.drop (off+cs.length))).toArray t->Upd (fun b=>b=g) w w'->K (a.put o.dst (goInt (Nat.min sLen dLen))) w'):o.wp P a w K Q:=by
 obtain ⟨w',hr,h2,h3⟩:=Dw (P:=P) w dT sT o.type e size hu hs dp dLen dCap sp sLen sCap g off cur t hg cs hn hsz hpos hfit h1
 unfold Oper.wp execOp
 simp only [ho,resolve,invoke,builtin,Sem.run_bind,Sem.run_pure,Result.andThen_ok,List.map_toArray,List.map_cons,List.map_nil,hd,hsv,hr]
 exact h w' h2 h3
theorem qH (hgd:o.guard=none) (d s:Operand) (dT sT:TypeId) (ho:o.op= .call {callee:= .builtin .copy,args:= #[d,s],argTypes:= #[dT,sT]}) (e:TypeId) (size:Nat)
  (hu:P.underlying dT=some (.slice e)) (hs:(P.info? e).map (·.size)=some size) (hsz:0 < size)
  (dp:Option Addr) (dLen dCap:Nat) (hd:a.eval d= .slice dp dLen dCap) (sp:Option Addr) (sLen sCap:Nat) (hsv:a.eval s= .slice sp sLen sCap)
  (g off:Nat) (cur:Array Value) (t:TypeId) (hg:Blk w g cur t) (cs:List Value) (hn:cs.length=Nat.min sLen dLen*size)
  (hpos:0 < Nat.min sLen dLen->dp=some ⟨g,off,none⟩/\∃ad,sp=some ad/\∀j v,cs[j]?=some v->w.cell? (ad.add j)=some v)
  (hfit:off+cs.length<=cur.size) (h1:∀v∈cs,v.oneCell'=true)
  (h:∀w',Blk w' g (cur.toList.take off++(cs++cur.toList.drop (off+cs.length))).toArray t->Upd (fun b=>b=g) w w'->wpList P ops Q rest (a.put o.dst (goInt (Nat.min sLen dLen))) w'):
  wpList P ops Q (o::rest) a w:=
 wpList_plain hgd fun _ hK=>KQ d s dT sT ho e size hu hs hsz dp dLen dCap hd sp sLen sCap hsv g off cur t hg cs hn hpos hfit h1 fun w' h2 h3=>hK _ _ (h w' h2 h3)
theorem wK (hgd:o.guard=none) {E:Prop} (d s:Operand) (dT sT:TypeId) (ho:o.op= .call {callee:= .builtin .copy,args:= #[d,s],argTypes:= #[dT,sT]}) (e:TypeId) (size:Nat)
  (hu:P.underlying dT=some (.slice e)) (hs:(P.info? e).map (·.size)=some size) (hsz:0 < size)
  (dp:Option Addr) (dLen dCap:Nat) (hd:a.eval d= .slice dp dLen dCap) (sp:Option Addr) (sLen sCap:Nat) (hsv:a.eval s= .slice sp sLen sCap)
  (g off:Nat) (cur:Array Value) (t:TypeId) (hg:Blk w g cur t) (cs:List Value) (hn:cs.length=Nat.min sLen dLen*size)
  (hpos:0 < Nat.min sLen dLen->dp=some ⟨g,off,none⟩/\∃ad,sp=some ad/\∀j v,cs[j]?=some v->w.cell? (ad.add j)=some v)
  (hfit:off+cs.length<=cur.size) (h1:∀v∈cs,v.oneCell'=true)
  (h:∀w',Blk w' g (cur.toList.take off++(cs++cur.toList.drop (off+cs.length))).toArray t->Upd (fun b=>b=g) w w'->K (a.put o.dst (goInt (Nat.min sLen dLen))) w'):
  if Region.wanted o (yielded ops a.tmps)=true then Oper.wp P o a w K Q else E:=by
 rw [if_pos (by simp [Region.wanted,hgd])]
 exact KQ d s dT sT ho e size hu hs hsz dp dLen dCap hd sp sLen sCap hsv g off cur t hg cs hn hpos hfit h1 h
end
section
variable {P:Program}
theorem jA (w:World) (t tn ty e:TypeId) (i:TypeInfo) (z:Value) (kn k:IntKind) (size bytes:Nat) (ht:P.underlying t=some (.slice e)) (htn:P.underlying tn=some (.int kn)) (hi:P.info? e=some i) (hz:i.zero=some z)
  (hsize:i.size=size) (hby:i.bytes=bytes) (hzs:z.cells.size=size) (hsz:0 < size)
  (v:Value) (n cap:Nat) (ad:Option Addr) (hv:v= .slice ad n cap) (xs:List Value) (hx:Rd w size v n xs) (m:Nat) (hm:0 < m) (hg:cap < n+m)
  (h63:n+m<=maxLen) (hbytes:(n+m)*bytes<=140737488355328):
  ∃w' cap',(Builtin.append_ #[t,tn] ty #[v, .int k m]).run P w= .ok (.slice (some ⟨w.heap.size,0,none⟩) (n+m) cap') w'/\
   Blk w' w.heap.size (xs.toArray++Builtin.zeroCells z.cells m++Builtin.zeroCells z.cells (cap' - (n+m))) e/\n+m<=cap'/\cap'<=maxLen/\Upd dG w w':=by
 subst hv
 subst hsize
 subst hby
 have hsmall:n+m<=9223372036854775807:=by simp only [maxLen] at h63;omega
 have hm0:m≠0:=by omega
 have hw:IntKind.i64.wrap (m:Int)=m:=by rw [IntKind.wrap_i64];omega
 have h63':¬(9223372036854775807 < (n:Int)+(m:Int)):=by omega
 have h48':¬(281474976710656 < Builtin.nextslicecap (n+m) cap*i.bytes):=by
  have:=growslice_fits (need:=n+m) (old:=cap) hg hbytes;omega
 have hmb:m*i.bytes<=(n+m)*i.bytes:=Nat.mul_le_mul_right _ (by omega)
 have h48i:¬(281474976710656 < (m:Int)*(i.bytes:Int)):=by
  rw [<-Int.natCast_mul]
  omega
 have hneg:¬((m:Int) < 0):=by omega
 have hns:¬(m*i.size=0):=Nat.mul_ne_zero hm0 (by omega)
 have hnc:¬(n+m<=cap):=by omega
 obtain ⟨hl,_,a',c',hv',_,_,hnone,hcells⟩:=hx
 cases hv'
 have hfc:∀w',(∀a,w'.cell? a=w.cell? a)->(Builtin.firstCells i.size n (.slice ad n cap)).run P w'= .ok xs.toArray w':=by
  intro w' hw'
  cases ad with
  |none=>
   obtain ⟨rfl,_⟩:=hnone rfl
   obtain rfl:xs=[]:=List.eq_nil_of_length_eq_zero (by simpa using hl)
   simp [Builtin.firstCells]
  |some b=>exact run_firstCells_some (P:=P) w' i.size n b n cap xs hl (fun j u hu=>by rw [hw'];exact (hcells b rfl).2 j u hu)
 refine ⟨w.drew.alloc (.cells (xs.toArray++Builtin.zeroCells z.cells m++Builtin.zeroCells z.cells (grownCap w (n+m) cap e - (n+m))) e),grownCap w (n+m) cap e, ?_,heap_alloc_new w.drew _,grownCap_ge _ _ _ _,grownCap_le_maxLen _ _ _ _ h63,((Upd.refl _ _).drew).alloc _⟩
 simp [Builtin.append_,run_underlying ht,run_underlying htn,sizeOf,typeInfo,zeroValue,hi,hz,asInt,asIntOf,hw,hm0,hneg,hns,h63',h48',h48i,hnc,Question.forced,hfc w.drew (fun _=>rfl),newRow,grownCap]
theorem FD {w:World} {h:Nat} {xs:List Value} {z:Value} {n k:Nat} {e:TypeId} (hb:Blk w h (xs.toArray++Builtin.zeroCells z.cells n++Builtin.zeroCells z.cells k) e):
  ∃Z:List Value,Blk w h (xs++Z).toArray e/\Z.length=(n+k)*z.cells.size:=by
 refine ⟨(Builtin.zeroCells z.cells n).toList++(Builtin.zeroCells z.cells k).toList, ?_, ?_⟩
 ·have e1:(xs.toArray++Builtin.zeroCells z.cells n++Builtin.zeroCells z.cells k)=(xs++((Builtin.zeroCells z.cells n).toList++(Builtin.zeroCells z.cells k).toList)).toArray:=by
   apply Array.ext'
   simp
  rw [e1] at hb
  exact hb
 ·rw [List.length_append,Array.length_toList,Array.length_toList,size_zeroCells,size_zeroCells,Nat.add_mul]
theorem gB {w:World} {g off:Nat} {A Z cs:List Value} {t:TypeId} (h:Blk w g ((A++Z).toArray.toList.take off++(cs++(A++Z).toArray.toList.drop (off+cs.length))).toArray t) (hA:A.length=off):Blk w g (A++(cs++Z.drop cs.length)).toArray t:=by
 subst hA
 have e:A.drop (A.length+cs.length)=[]:=List.drop_eq_nil_of_le (by omega)
 simpa [List.drop_append,e] using h
theorem Aj (w:World) (t ty e:TypeId) (i:TypeInfo) (z:Value) (size:Nat) (ht:P.underlying t=some (.slice e)) (hi:P.info? e=some i) (hz:i.zero=some z) (hsize:i.size=size) (hzs:z.cells.size=size) (hz1:∀u∈z.cells,u.oneCell'=true)
  (g off n cap:Nat) (cur:Array Value) (T:TypeId) (hg:Blk w g cur T) (hfit:off+n*size<=cur.size) (hn:0 < n):
  ∃w',(Builtin.clear_ #[t] ty #[.slice (some ⟨g,off,none⟩) n cap]).run P w= .ok (.tuple #[]) w'/\Blk w' g (cur.toList.take off++((Builtin.zeroCells z.cells n).toList++cur.toList.drop (off+n*size))).toArray T/\Upd (fun b=>b=g) w w':=by
 obtain ⟨n,rfl⟩:∃k,n=k+1:=⟨n - 1,by omega⟩
 subst hsize
 have hl:(Builtin.zeroCells z.cells (n+1)).toList.length=(n+1)*i.size:=by rw [Array.length_toList,size_zeroCells,hzs]
 have h1:∀u∈(Builtin.zeroCells z.cells (n+1)).toList,u.oneCell'=true:=by
  intro u hu
  simp only [Builtin.zeroCells,Array.toList_map,List.mem_map] at hu
  obtain ⟨j,hj,rfl⟩:=hu
  have hj':j < (n+1)*z.cells.size:=by simpa using hj
  have hp:0 < z.cells.size:=by
   rcases Nat.eq_zero_or_pos z.cells.size with h0|h0
   ·rw [h0] at hj';omega
   ·exact h0
  rw [getElem!_pos z.cells (j % z.cells.size) (Nat.mod_lt _ hp)]
  exact hz1 _ (Array.getElem_mem _)
 have hst:=run_storeCells_at P g off T (Builtin.zeroCells z.cells (n+1)).toList 0 cur w hg (by rw [hl];simpa using hfit) h1
 simp only [Nat.add_zero] at hst
 rw [List.append_assoc,hl] at hst
 refine ⟨_, ?_,hg.setRow _,⟨rfl,rfl,rfl,by simp [World.setRow],fun k hk hs=>setRow_other w g k _ hs⟩⟩
 simp only [Builtin.clear_]
 simp [run_underlying ht,zeroValue,typeInfo,hi,hz,hst]
variable {w:World} {ops:Array Oper} {rest:List Oper} {o:Oper} {a:Act} {Q:Exit->Act->World->Prop} {K:Act->World->Prop}
theorem tX (hgd:o.guard=none) (s x:Operand) (t tn:TypeId) (ho:o.op= .call {callee:= .builtin .append,args:= #[s,x],argTypes:= #[t,tn]})
  (e:TypeId) (size bytes:Nat) (z:Value) (kn k:IntKind) (ht:P.underlying t=some (.slice e)) (htn:P.underlying tn=some (.int kn)) (hi:(P.info? e).map (fun i=>(i.zero,i.size,i.bytes))=some (some z,size,bytes))
  (hzs:z.cells.size=size) (hsz:0 < size)
  (n cap:Nat) (ad:Option Addr) (hv:a.eval s= .slice ad n cap) (xs:List Value) (hx:Rd w size (.slice ad n cap) n xs) (m:Nat) (hxm:a.eval x= .int k m) (hm:0 < m) (hg:cap < n+m)
  (h63:n+m<=maxLen) (hbytes:(n+m)*bytes<=140737488355328)
  (h:∀w' cap',Blk w' w.heap.size (xs.toArray++Builtin.zeroCells z.cells m++Builtin.zeroCells z.cells (cap' - (n+m))) e->n+m<=cap'->cap'<=maxLen->Upd dG w w'->wpList P ops Q rest (a.put o.dst (.slice (some ⟨w.heap.size,0,none⟩) (n+m) cap')) w'):
  wpList P ops Q (o::rest) a w:=by
 obtain ⟨i,hi',hz,hs,hb⟩:=info_parts hi
 obtain ⟨w',cap',hr,h2,h3,h4,h5⟩:=jA (P:=P) w t tn o.type e i z kn k size bytes ht htn hi' hz hs hb hzs hsz _ n cap ad rfl xs hx m hm hg h63 hbytes
 exact Lib.wpList_append_run w hgd s x t tn ho _ _ hv hxm _ _ hr (h w' cap' h2 h3 h4 h5)
theorem uS (hgd:o.guard=none) (s:Operand) (t:TypeId) (ho:o.op= .call {callee:= .builtin .clear,args:= #[s],argTypes:= #[t]})
  (e:TypeId) (size bytes:Nat) (z:Value) (ht:P.underlying t=some (.slice e)) (hi:(P.info? e).map (fun i=>(i.zero,i.size,i.bytes))=some (some z,size,bytes)) (hzs:z.cells.size=size) (hz1:∀u∈z.cells,u.oneCell'=true)
  (g off n cap:Nat) (hs:a.eval s= .slice (some ⟨g,off,none⟩) n cap) (cur:Array Value) (T:TypeId) (hg:Blk w g cur T) (hfit:off+n*size<=cur.size) (hn:0 < n)
  (h:∀w',Blk w' g (cur.toList.take off++((Builtin.zeroCells z.cells n).toList++cur.toList.drop (off+n*size))).toArray T->Upd (fun b=>b=g) w w'->wpList P ops Q rest (a.put o.dst (.tuple #[])) w'):
  wpList P ops Q (o::rest) a w:=
 wpList_plain hgd fun _ hK=>by
  obtain ⟨i,hi',hz,hsz,hb⟩:=info_parts hi
  obtain ⟨w',hr,h2,h3⟩:=Aj (P:=P) w t o.type e i z size ht hi' hz hsz hzs hz1 g off n cap cur T hg hfit hn
  unfold Oper.wp execOp
  simp only [ho,resolve,invoke,builtin,Sem.run_bind,Sem.run_pure,Result.andThen_ok,List.map_toArray,List.map_cons,List.map_nil,hs,hr]
  exact hK _ _ (h w' h2 h3)
end
section
variable {P:Program} {w:World} {ops:Array Oper} {rest:List Oper} {o:Oper} {a:Act} {Q:Exit->Act->World->Prop} {K:Act->World->Prop}
theorem Dx (s x:Operand) (t:TypeId) (ho:o.op= .call {callee:= .builtin .append,args:= #[s,x],argTypes:= #[t,t]})
  (e:TypeId) (size:Nat) (ht:P.underlying t=some (.slice e)) (hs:(P.info? e).map (·.size)=some size)
  (g n cap:Nat) (hsv:a.eval s= .slice (some ⟨g,0,none⟩) n cap) (cur:Array Value) (T:TypeId) (hg:Blk w g cur T) (ax:Option Addr) (m c:Nat) (hxv:a.eval x= .slice ax m c) (news:List Value) (hl:news.length=m*size)
  (hx:0 < m->∃ad,ax=some ad/\∀j u,news[j]?=some u->w.cell? (ad.add j)=some u) (h1:∀u∈news,u.oneCell'=true) (hroom:n+m<=cap) (hfit:n*size+news.length<=cur.size)
  (h:∀w',Blk w' g (cur.toList.take (n*size)++(news++cur.toList.drop (n*size+news.length))).toArray T->Upd (fun b=>b=g) w w'->K (a.put o.dst (.slice (some ⟨g,0,none⟩) (n+m) cap)) w'):o.wp P a w K Q:=by
 obtain ⟨i,hi,hsi⟩:=Option.map_eq_some_iff.1 hs
 subst hsi
 by_cases hm:m=0
 ·subst hm
  have hn:news=[]:=List.eq_nil_of_length_eq_zero (by simpa using hl)
  subst hn
  have hfc:(Builtin.firstCells i.size 0 (.slice ax 0 c)).run P w= .ok #[] w:=by
   cases ax<;>simp [Builtin.firstCells,loadCells,loadCellsFrom]
  have hr:(Builtin.append_ #[t,t] o.type #[.slice (some ⟨g,0,none⟩) n cap, .slice ax 0 c]).run P w= .ok (.slice (some ⟨g,0,none⟩) n cap) w:=by
   have hnc:n<=cap:=by omega
   simp [Builtin.append_,run_underlying ht,sizeOf,typeInfo,hi,Builtin.lenOf,hfc,hnc,storeCells]
  unfold Oper.wp execOp
  simp only [ho,resolve,invoke,builtin,Sem.run_bind,Sem.run_pure,Result.andThen_ok,List.map_toArray,List.map_cons,List.map_nil,hsv,hxv,hr]
  exact h w (by simpa using hg) (Upd.refl _ _)
 ·obtain ⟨ad,rfl,hnews⟩:=hx (by omega)
  have hfc:=run_firstCells_some (P:=P) w i.size m ad m c news hl hnews
  have hst:=run_storeCells_at P g (n*i.size) T news 0 cur w hg (by simpa using hfit) h1
  simp only [Nat.add_zero] at hst
  rw [List.append_assoc] at hst
  have hr:(Builtin.append_ #[t,t] o.type #[.slice (some ⟨g,0,none⟩) n cap, .slice (some ad) m c]).run P w= .ok (.slice (some ⟨g,0,none⟩) (n+m) cap) (w.setRow g (cur.toList.take (n*i.size)++(news++cur.toList.drop (n*i.size+news.length))).toArray):=by
   simp [Builtin.append_,run_underlying ht,sizeOf,typeInfo,hi,Builtin.lenOf,hfc,hroom,Addr.add_lit,hst]
  unfold Oper.wp execOp
  simp only [ho,resolve,invoke,builtin,Sem.run_bind,Sem.run_pure,Result.andThen_ok,List.map_toArray,List.map_cons,List.map_nil,hsv,hxv,hr]
  exact h _ (hg.setRow _) ⟨rfl,rfl,rfl,by simp [World.setRow],fun k hk hs=>setRow_other w g k _ hs⟩
theorem qI (hgd:o.guard=none) {E:Prop} (s x:Operand) (t:TypeId) (ho:o.op= .call {callee:= .builtin .append,args:= #[s,x],argTypes:= #[t,t]})
  (e:TypeId) (size:Nat) (ht:P.underlying t=some (.slice e)) (hs:(P.info? e).map (·.size)=some size)
  (g n cap:Nat) (hsv:a.eval s= .slice (some ⟨g,0,none⟩) n cap) (cur:Array Value) (T:TypeId) (hg:Blk w g cur T) (ax:Option Addr) (m c:Nat) (hxv:a.eval x= .slice ax m c) (news:List Value) (hl:news.length=m*size)
  (hx:0 < m->∃ad,ax=some ad/\∀j u,news[j]?=some u->w.cell? (ad.add j)=some u) (h1:∀u∈news,u.oneCell'=true) (hroom:n+m<=cap) (hfit:n*size+news.length<=cur.size)
  (h:∀w',Blk w' g (cur.toList.take (n*size)++(news++cur.toList.drop (n*size+news.length))).toArray T->Upd (fun b=>b=g) w w'->K (a.put o.dst (.slice (some ⟨g,0,none⟩) (n+m) cap)) w'):
  if Region.wanted o (yielded ops a.tmps)=true then Oper.wp P o a w K Q else E:=by
 rw [if_pos (by simp [Region.wanted,hgd])]
 exact Dx s x t ho e size ht hs g n cap hsv cur T hg ax m c hxv news hl hx h1 hroom hfit h
end
end Go.Proofs.YtbnkdnlfdofepaaGreat
namespace Go.Proofs.YtbnkdnlfdofepaaGreat
namespace Am
open Go.RowKit
inductive AV where
 |int (k:IntKind) (n:Int)
 |bool (b:Bool)
 |str (s:List UInt8)
 |ptr (g off:Nat)
 |bU
 |slice (z g off len:Nat) (cap:Option Nat)
 |ae
 |func (f:Nat) (cs:List AV)
 |qJ
 |iface (t:Nat) (v:AV)
 |FH
 |agg (l:List AV)
 |tup (l:List AV)
 |bot
 |bV
 |meth (f:Nat) (fs:List AV)
 deriving Inhabited
def AV.one:AV->Bool
 | .agg _| .tup _| .bot=>false
 |_=>true
structure Pl where
 b:Nat
 s:Nat
 e:Nat
 z:Nat
abbrev Mu:=Nat->Option Pl
mutual
def VR (m:Mu):AV->Value->Prop
 | .int k n,v=>v= .int k n
 | .bool b,v=>v= .bool b
 | .str s,v=>v= .string ⟨s.toArray⟩
 | .ptr g off,v=>∃p,m g=some p/\v= .pointer (some ⟨p.b,p.s+off,none⟩)
 | .bU,v=>v= .pointer none
 | .slice z g off len cap,v=>∃p ad c,m g=some p/\v= .slice (some ad) len c/\len<=c/\c<=maxLen/\(c≠0->ad=⟨p.b,p.s+off,none⟩)/\(0 < p.z/\p.z=z)/\
   (match cap with|none=>p.s+off+c*p.z=p.e|some k=>c=k)
 | .ae,v=>v= .slice none 0 0
 | .func f cs,v=>∃l,v= .func (.func f) #[] l.toArray/\VRs m cs l
 | .qJ,v=>v= .nilFunc
 | .iface t x,v=>∃x',v= .iface t x'/\VR m x x'
 | .FH,v=>v= .nilIface
 | .agg cs,v=>∃l,v= .agg l.toArray/\VRs m cs l
 | .tup cs,v=>∃l,v= .tuple l.toArray/\VRs m cs l
 | .bot,_=>True
 | .bV,v=>∃a c,v= .slice a 0 c/\c<=maxLen/\(a=none->c=0)
 | .meth f fs,v=>∃l,v= .func (.func f) l.toArray #[]/\VRs m fs l
def VRs (m:Mu):List AV->List Value->Prop
 |[],l=>l=[]
 |a::xs,l=>∃v vs,l=v::vs/\VR m a v/\VRs m xs vs
end
def Ext (m m':Mu):Prop:=∀g p,m g=some p->m' g=some p
theorem Ext.refl (m:Mu):Ext m m:=fun _ _ h=>h
theorem Ext.trans {a b c:Mu} (h:Ext a b) (k:Ext b c):Ext a c:=fun g p hp=>k g p (h g p hp)
mutual
theorem VR.ext {m m':Mu} (h:Ext m m'):∀(a:AV) (v:Value),VR m a v->VR m' a v
 | .int ..,_,hv=>by simpa [VR] using hv
 | .bool ..,_,hv=>by simpa [VR] using hv
 | .str ..,_,hv=>by simpa [VR] using hv
 | .ptr ..,_,hv=>by
  simp only [VR] at hv ⊢
  obtain ⟨p,hp,r⟩:=hv
  exact ⟨p,h _ _ hp,r⟩
 | .bU,_,hv=>by simpa [VR] using hv
 | .slice ..,_,hv=>by
  simp only [VR] at hv ⊢
  obtain ⟨p,ad,c,hp,r⟩:=hv
  exact ⟨p,ad,c,h _ _ hp,r⟩
 | .ae,_,hv=>by simpa [VR] using hv
 | .func _ cs,_,hv=>by
  simp only [VR] at hv ⊢
  obtain ⟨l,r,hl⟩:=hv
  exact ⟨l,r,VRs.ext h cs l hl⟩
 | .qJ,_,hv=>by simpa [VR] using hv
 | .iface _ x,_,hv=>by
  simp only [VR] at hv ⊢
  obtain ⟨l,r,hl⟩:=hv
  exact ⟨l,r,VR.ext h x l hl⟩
 | .FH,_,hv=>by simpa [VR] using hv
 | .agg cs,_,hv=>by
  simp only [VR] at hv ⊢
  obtain ⟨l,r,hl⟩:=hv
  exact ⟨l,r,VRs.ext h cs l hl⟩
 | .tup cs,_,hv=>by
  simp only [VR] at hv ⊢
  obtain ⟨l,r,hl⟩:=hv
  exact ⟨l,r,VRs.ext h cs l hl⟩
 | .bot,_,_=>by simp [VR]
 | .bV,_,hv=>by simpa [VR] using hv
 | .meth _ fs,_,hv=>by
  simp only [VR] at hv ⊢
  obtain ⟨l,r,hl⟩:=hv
  exact ⟨l,r,VRs.ext h fs l hl⟩
theorem VRs.ext {m m':Mu} (h:Ext m m'):∀(xs:List AV) (l:List Value),VRs m xs l->VRs m' xs l
 |[],_,hv=>by simpa [VRs] using hv
 |a::xs,_,hv=>by
  simp only [VRs] at hv ⊢
  obtain ⟨v,vs,e,h1,h2⟩:=hv
  exact ⟨v,vs,e,VR.ext h a v h1,VRs.ext h xs vs h2⟩
end
theorem VRs.len {m:Mu}:∀{xs:List AV} {l:List Value},VRs m xs l->l.length=xs.length
 |[],_,h=>by simp only [VRs] at h;subst h;rfl
 |a::xs,_,h=>by
  simp only [VRs] at h
  obtain ⟨v,vs,rfl,_,h2⟩:=h
  simp [VRs.len h2]
theorem VRs.get {m:Mu}:∀{xs:List AV} {l:List Value},VRs m xs l->∀{i:Nat} {a:AV},xs[i]?=some a->∃v,l[i]?=some v/\VR m a v
 |[],_,_,i,a,hi=>by simp at hi
 |x::xs,_,h,i,a,hi=>by
  simp only [VRs] at h
  obtain ⟨v,vs,rfl,h1,h2⟩:=h
  cases i with
  |zero=>simp at hi;subst hi;exact ⟨v,by simp,h1⟩
  |succ i=>simp at hi ⊢;exact VRs.get h2 hi
theorem VRs.mk {m:Mu}:∀{xs:List AV} {l:List Value},l.length=xs.length->(∀(i:Nat) a v,xs[i]?=some a->l[i]?=some v->VR m a v)->VRs m xs l
 |[],l,hl,_=>by simp only [VRs];exact List.eq_nil_of_length_eq_zero hl
 |x::xs,[],hl,_=>by simp at hl
 |x::xs,v::vs,hl,h=>by
  simp only [VRs]
  exact ⟨v,vs,rfl,h 0 x v (by simp) (by simp),VRs.mk (by simpa using hl) (fun i a w ha hw=>h (i+1) a w (by simpa using ha) (by simpa using hw))⟩
theorem VRs.append {m:Mu}:∀{xs bs:List AV} {l k:List Value},VRs m xs l->VRs m bs k->VRs m (xs++bs) (l++k)
 |[],_,_,_,h,h'=>by simp only [VRs] at h;subst h;simpa using h'
 |a::xs,bs,_,k,h,h'=>by
  simp only [VRs] at h
  obtain ⟨v,vs,rfl,h1,h2⟩:=h
  simp only [List.cons_append,VRs]
  exact ⟨v,vs++k,rfl,h1,VRs.append h2 h'⟩
theorem VRs.take {m:Mu}:∀{xs:List AV} {l:List Value},VRs m xs l->∀n,VRs m (xs.take n) (l.take n)
 |[],_,h,n=>by simp only [VRs] at h;subst h;simp [VRs]
 |a::xs,_,h,0=>by simp [VRs]
 |a::xs,_,h,n+1=>by
  simp only [VRs] at h
  obtain ⟨v,vs,rfl,h1,h2⟩:=h
  simp only [List.take_succ_cons,VRs]
  exact ⟨v,_,rfl,h1,VRs.take h2 n⟩
theorem VRs.drop {m:Mu}:∀{xs:List AV} {l:List Value},VRs m xs l->∀n,VRs m (xs.drop n) (l.drop n)
 |[],_,h,n=>by simp only [VRs] at h;subst h;simp [VRs]
 |a::xs,_,h,0=>by simpa using h
 |a::xs,_,h,n+1=>by
  simp only [VRs] at h
  obtain ⟨v,vs,rfl,h1,h2⟩:=h
  simpa using VRs.drop h2 n
theorem VR.one {m:Mu} {a:AV} {v:Value} (h:VR m a v) (h1:a.one=true):v.oneCell'=true:=by
 cases a<;>simp only [VR] at h<;>first
  |(cases h1;done)
  |(subst h;rfl)
  |(obtain ⟨p,_,rfl⟩:=h;rfl)
  |(obtain ⟨p,_,_,_,rfl,_⟩:=h;rfl)
  |(obtain ⟨l,rfl,_⟩:=h;rfl)
  |(obtain ⟨a,c,rfl,_⟩:=h;rfl)
set_option maxRecDepth 512
inductive T (α:Type) where
 |nil
 |node (l:T α) (v:Option α) (r:T α)
theorem tY {a b:Nat} (h:a≠b):Nat.beq a b=false:=by
 cases e:Nat.beq a b with
 |false=>rfl
 |true=>exact absurd (Nat.eq_of_beq_eq_true e) h
namespace T
variable {α:Type}
noncomputable def lf (t:T α):T α:=T.casesOn (motive:=fun _=>T α) t .nil (fun l _ _=>l)
noncomputable def rt (t:T α):T α:=T.casesOn (motive:=fun _=>T α) t .nil (fun _ _ r=>r)
noncomputable def vl (t:T α):Option α:=T.casesOn (motive:=fun _=>Option α) t none (fun _ v _=>v)
noncomputable def get (f:Nat):T α->Nat->Option α:=
 Nat.rec (motive:=fun _=>T α->Nat->Option α) (fun _ _=>none)
  (fun _ ih t n=>Bool.rec (motive:=fun _=>Option α) (Bool.rec (motive:=fun _=>Option α) (ih t.rt (Nat.div n 2)) (ih t.lf (Nat.div n 2)) (Nat.beq (Nat.mod n 2) 0)) t.vl (Nat.beq n 0)) f
noncomputable def set (f:Nat):T α->Nat->Option α->T α:=
 Nat.rec (motive:=fun _=>T α->Nat->Option α->T α) (fun t _ _=>t)
  (fun _ ih t n a=>Bool.rec (motive:=fun _=>T α) (Bool.rec (motive:=fun _=>T α) (.node t.lf t.vl (ih t.rt (Nat.div n 2) a)) (.node (ih t.lf (Nat.div n 2) a) t.vl t.rt) (Nat.beq (Nat.mod n 2) 0)) (.node t.lf a t.rt) (Nat.beq n 0)) f
theorem jR (f:Nat) (t:T α) (n:Nat):get (f+1) t n=if n=0 then t.vl else if n % 2=0 then get f t.lf (n / 2) else get f t.rt (n / 2):=by
 show Bool.rec (motive:=fun _=>Option α) (Bool.rec (motive:=fun _=>Option α) (get f t.rt (n / 2)) (get f t.lf (n / 2)) (Nat.beq (n % 2) 0)) t.vl (Nat.beq n 0)=_
 by_cases h:n=0
 ·subst h;rfl
 ·rw [if_neg h,tY h]
  by_cases h2:n % 2=0
  ·rw [if_pos h2,h2];rfl
  ·rw [if_neg h2,tY h2]
theorem uT (f:Nat) (t:T α) (n:Nat) (a:Option α):set (f+1) t n a=if n=0 then .node t.lf a t.rt else if n % 2=0 then .node (set f t.lf (n / 2) a) t.vl t.rt else .node t.lf t.vl (set f t.rt (n / 2) a):=by
 show Bool.rec (motive:=fun _=>T α) (Bool.rec (motive:=fun _=>T α) (.node t.lf t.vl (set f t.rt (n / 2) a)) (.node (set f t.lf (n / 2) a) t.vl t.rt) (Nat.beq (n % 2) 0)) (.node t.lf a t.rt) (Nat.beq n 0)=_
 by_cases h:n=0
 ·subst h;rfl
 ·rw [if_neg h,tY h]
  by_cases h2:n % 2=0
  ·rw [if_pos h2,h2];rfl
  ·rw [if_neg h2,tY h2]
theorem x9:∀(f f':Nat) (t:T α) (n:Nat),n < f->n < f'->get f t n=get f' t n
 |0,_,_,_,h,_=>absurd h (Nat.not_lt_zero _)
 |_+1,0,_,_,_,h=>absurd h (Nat.not_lt_zero _)
 |f+1,f'+1,t,n,h,h'=>by
  rw [jR,jR]
  by_cases hn:n=0
  ·rw [if_pos hn,if_pos hn]
  ·rw [if_neg hn,if_neg hn,x9 f f' t.lf (n / 2) (by omega) (by omega),x9 f f' t.rt (n / 2) (by omega) (by omega)]
theorem Dy:∀(f f':Nat) (t:T α) (n:Nat) (a:Option α),n < f->n < f'->set f t n a=set f' t n a
 |0,_,_,_,_,h,_=>absurd h (Nat.not_lt_zero _)
 |_+1,0,_,_,_,_,h=>absurd h (Nat.not_lt_zero _)
 |f+1,f'+1,t,n,a,h,h'=>by
  rw [uT,uT]
  by_cases hn:n=0
  ·rw [if_pos hn,if_pos hn]
  ·rw [if_neg hn,if_neg hn,Dy f f' t.lf (n / 2) a (by omega) (by omega),Dy f f' t.rt (n / 2) a (by omega) (by omega)]
theorem pM:∀(f:Nat) (t:T α) (n:Nat) (a:Option α),n < f->get f (set f t n a) n=a
 |0,_,_,_,h=>absurd h (Nat.not_lt_zero _)
 |f+1,t,n,a,h=>by
  rw [jR,uT]
  by_cases hn:n=0
  ·simp only [if_pos hn];rfl
  ·simp only [if_neg hn]
   by_cases h2:n % 2=0
   ·simp only [if_pos h2];exact pM f t.lf (n / 2) a (by omega)
   ·simp only [if_neg h2];exact pM f t.rt (n / 2) a (by omega)
theorem uq:∀(f:Nat) (t:T α) (n:Nat) (a:Option α) (m:Nat),m≠n->get f (set f t n a) m=get f t m
 |0,_,_,_,_,_=>rfl
 |f+1,t,n,a,m,h=>by
  rw [jR,jR,uT]
  by_cases hn:n=0
  ·simp only [if_pos hn]
   by_cases hm:m=0
   ·omega
   ·simp only [if_neg hm];rfl
  ·simp only [if_neg hn]
   by_cases h2:n % 2=0
   ·simp only [if_pos h2]
    by_cases hm:m=0
    ·simp only [if_pos hm];rfl
    ·simp only [if_neg hm]
     by_cases h3:m % 2=0
     ·simp only [if_pos h3];exact uq f t.lf (n / 2) a (m / 2) (by omega)
     ·simp only [if_neg h3];rfl
   ·simp only [if_neg h2]
    by_cases hm:m=0
    ·simp only [if_pos hm];rfl
    ·simp only [if_neg hm]
     by_cases h3:m % 2=0
     ·simp only [if_pos h3];rfl
     ·simp only [if_neg h3];exact uq f t.rt (n / 2) a (m / 2) (by omega)
theorem wL (t:T α) (n:Nat) (a:Option α):get (Nat.succ n) (set (Nat.succ n) t n a) n=a:=pM _ _ _ _ (Nat.lt_succ_self n)
theorem yf (t:T α) (n:Nat) (a:Option α) (m:Nat) (h:m≠n):get (Nat.succ m) (set (Nat.succ n) t n a) m=get (Nat.succ m) t m:=by
 rw [Dy (Nat.succ n) (Nat.succ n+Nat.succ m) t n a (by omega) (by omega),x9 (Nat.succ m) (Nat.succ n+Nat.succ m) _ m (by omega) (by omega),uq _ _ _ _ _ h,x9 (Nat.succ n+Nat.succ m) (Nat.succ m) t m (by omega) (by omega)]
theorem wM {x:α} (t:T α) (n:Nat) (a:Option α) (m:Nat) (h:get (Nat.succ m) (set (Nat.succ n) t n a) m=some x):(m=n/\a=some x)\/(m≠n/\get (Nat.succ m) t m=some x):=by
 by_cases e:m=n
 ·subst e;rw [wL] at h;exact .inl ⟨rfl,h⟩
 ·rw [yf _ _ _ _ e] at h;exact .inr ⟨e,h⟩
end T
structure dH where
 X:Type
 rep:X->World->Nat->(Nat->Prop)->Prop
 lt:∀{x w b S},rep x w b S->∀k,S k->k < w.heap.size
 keep:∀{x w w' b S},rep x w b S->(∀k,S k->w'.heap[k]?=w.heap[k]?)->rep x w' b S
inductive AB (X:Type) where
 |rw (l:List AV)
 |ro (l:List AV)
 |obj (x:X)
def AB.own {X:Type}:AB X->Bool
 | .ro _=>false
 |_=>true
structure Hp (X:Type) where
 t:T (AB X)
 n:Nat
noncomputable def Hp.get {X:Type} (h:Hp X) (g:Nat):Option (AB X):=h.t.get (Nat.succ g) g
noncomputable def Hp.put {X:Type} (h:Hp X) (g:Nat) (c:AB X):Hp X:=⟨h.t.set (Nat.succ g) g (some c),h.n⟩
noncomputable def Hp.del {X:Type} (h:Hp X) (g:Nat):Hp X:=⟨h.t.set (Nat.succ g) g none,h.n⟩
noncomputable def Hp.push {X:Type} (h:Hp X) (c:AB X):Hp X:=⟨h.t.set (Nat.succ h.n) h.n (some c),Nat.succ h.n⟩
theorem Hp.get_put {X:Type} {h:Hp X} {g k:Nat} {c x:AB X} (e:(h.put g c).get k=some x):(k=g/\x=c)\/(k≠g/\h.get k=some x):=by
 rcases T.wM h.t g (some c) k e with ⟨h1,h2⟩|h'
 ·cases h2;exact .inl ⟨h1,rfl⟩
 ·exact .inr h'
theorem Hp.su {X:Type} {h:Hp X} {g k:Nat} {x:AB X} (e:(h.del g).get k=some x):k≠g/\h.get k=some x:=by
 rcases T.wM h.t g none k e with ⟨h1,h2⟩|h'
 ·cases h2
 ·exact h'
theorem Hp.fO {X:Type} {h:Hp X} {k:Nat} {c x:AB X} (e:(h.push c).get k=some x):(k=h.n/\x=c)\/(k≠h.n/\h.get k=some x):=by
 rcases T.wM h.t h.n (some c) k e with ⟨h1,h2⟩|h'
 ·cases h2;exact .inl ⟨h1,rfl⟩
 ·exact .inr h'
theorem Hp.bW {X:Type} (h:Hp X) (g:Nat) (c:AB X):(h.put g c).get g=some c:=T.wL _ _ _
theorem Hp.iQ {X:Type} (h:Hp X) (g:Nat) (c:AB X) {k:Nat} (e:k≠g):(h.put g c).get k=h.get k:=T.yf _ _ _ _ e
theorem Hp.Yp {X:Type} (h:Hp X) (g:Nat) {k:Nat} (e:k≠g):(h.del g).get k=h.get k:=T.yf _ _ _ _ e
theorem Hp.aK {X:Type} (h:Hp X) (c:AB X):(h.push c).get h.n=some c:=T.wL _ _ _
theorem Hp.yg {X:Type} (h:Hp X) (c:AB X) {k:Nat} (e:k≠h.n):(h.push c).get k=h.get k:=T.yf _ _ _ _ e
def Dz (m:Mu) (l:List AV) (f:Nat->Option Value):Prop:=∀(i:Nat) v,l[i]?=some v->∃v',f i=some v'/\VR m v v'/\v.one=true
theorem Dz.ext {m m':Mu} (h:Ext m m') {l:List AV} {f:Nat->Option Value} (hr:Dz m l f):Dz m' l f:=fun i v hi=>by
 obtain ⟨v',h1,h2,h3⟩:=hr i v hi
 exact ⟨v',h1,h2.ext h,h3⟩
def PH (fz:Nat×Nat) (n:Nat):Prop:=fz.1=fz.2\/n<=fz.1
theorem PH.at {fz:Nat×Nat} {n:Nat} (h:PH fz n) {i:Nat} (hi:i < n):(decide (fz.1<=i) && decide (i < fz.2))=false:=by
 rcases h with h|h
 ·simp;omega
 ·simp;omega
def mO (O:dH) (w0 w:World) (m:Mu) (p:Pl) (S:Nat->Prop):AB O.X->Prop
 | .rw l=>∃cs ty fz,w.heap[p.b]?=some (.cells cs ty fz)/\PH fz cs.size/\p.e<=cs.size/\p.s+l.length<=p.e/\
   Dz m l (fun i=>cs[p.s+i]?)/\(∀k,S k↔k=p.b)/\(p.z≠1->fz=(0,0))
 | .ro l=>p.b < w0.heap.size/\p.s+l.length<=p.e/\Dz m l (fun i=>w0.cell? ⟨p.b,p.s+i,none⟩)
 | .obj x=>p.s=0/\O.rep x w p.b S
theorem mO.ext {O:dH} {w0 w:World} {m m':Mu} {p:Pl} {S:Nat->Prop} {c:AB O.X} (h:Ext m m') (hb:mO O w0 w m p S c):mO O w0 w m' p S c:=by
 cases c with
 |rw l=>
  obtain ⟨cs,ty,fz,h1,h2,h3,h4,h5,h6⟩:=hb
  exact ⟨cs,ty,fz,h1,h2,h3,h4,h5.ext h,h6⟩
 |ro l=>exact ⟨hb.1,hb.2.1,hb.2.2.ext h⟩
 |obj x=>exact hb
theorem mO.same {O:dH} {w0 w w':World} {m:Mu} {p:Pl} {S:Nat->Prop} {c:AB O.X} (hb:mO O w0 w m p S c) (h:c.own=true->∀k,S k->w'.heap[k]?=w.heap[k]?):mO O w0 w' m p S c:=by
 cases c with
 |rw l=>
  obtain ⟨cs,ty,fz,h1,h2,h3,h4,h5,h6,h7⟩:=hb
  exact ⟨cs,ty,fz,(h rfl p.b ((h6 _).2 rfl)).trans h1,h2,h3,h4,h5,h6,h7⟩
 |ro l=>exact hb
 |obj x=>exact ⟨hb.1,O.keep hb.2 (h rfl)⟩
theorem mO.lt {O:dH} {w0 w:World} {m:Mu} {p:Pl} {S:Nat->Prop} {c:AB O.X} (hb:mO O w0 w m p S c) (hc:c.own=true) {k:Nat} (hk:S k):k < w.heap.size:=by
 cases c with
 |rw l=>
  obtain ⟨cs,ty,fz,h1,_,_,_,_,h6,_⟩:=hb
  rw [(h6 k).1 hk]
  exact lt_of_block h1
 |ro l=>cases hc
 |obj x=>exact O.lt hb.2 k hk
abbrev Ph:=Nat->Nat->Prop
def Ph.set (φ:Ph) (g:Nat) (S:Nat->Prop):Ph:=fun k=>if k=g then S else φ k
def Mu.set (m:Mu) (g:Nat) (p:Pl):Mu:=fun k=>if k=g then some p else m k
theorem Mu.iK {m:Mu} {g:Nat} (h:m g=none) (p:Pl):Ext m (m.set g p):=fun k q hk=>by
 unfold Mu.set
 split
 ·rename_i e;subst e;rw [h] at hk;cases hk
 ·exact hk
theorem Mu.set_self (m:Mu) (g:Nat) (p:Pl):m.set g p g=some p:=by simp [Mu.set]
structure SR (O:dH) (w0 w:World) (m:Mu) (φ:Ph) (h:Hp O.X):Prop where
 below:Below w0.heap.size w0 w
 blk:∀g c,h.get g=some c->∀p,m g=some p->mO O w0 w m p (φ g) c
 dis:∀g g' c c',h.get g=some c->h.get g'=some c'->g≠g'->c.own=true->c'.own=true->(m g).isSome=true->(m g').isSome=true->∀k,φ g k->¬φ g' k
 fresh:∀g c,h.get g=some c->c.own=true->(m g).isSome=true->∀k,φ g k->w0.heap.size<=k
 dom:∀g p,m g=some p->g < h.n
namespace SR
variable {O:dH} {w0 w w':World} {m:Mu} {φ:Ph} {h:Hp O.X}
theorem lK (H:SR O w0 w m φ h):m h.n=none:=by
 cases e:m h.n with
 |none=>rfl
 |some p=>exact absurd (H.dom _ _ e) (Nat.lt_irrefl _)
theorem drew (H:SR O w0 w m φ h):SR O w0 w.drew m φ h:=
 ⟨⟨H.below.os,H.below.tape,H.below.output,H.below.size,H.below.block⟩,fun g c hg p hp=>(H.blk g c hg p hp).same (fun _ _ _=>rfl),H.dis,H.fresh,H.dom⟩
theorem upd (H:SR O w0 w m φ h) {g:Nat} {c c':AB O.X} {p:Pl} (hg:h.get g=some c) (hc:c.own=true) (hp:m g=some p) {S':Nat->Prop} (hu:Upd (φ g) w w')
  (hb:mO O w0 w' m p S' c') (hc':c'.own=true) (hS:∀k,S' k->φ g k\/w.heap.size<=k):SR O w0 w' m (φ.set g S') (h.put g c'):=by
 have hps:(m g).isSome=true:=by rw [hp];rfl
 have hlow:=H.fresh g c hg hc hps
 have hsz:=H.below.size
 have key:∀k,S' k->w0.heap.size<=k:=fun k hk=>by
  rcases hS k hk with h'|h'
  ·exact hlow k h'
  ·omega
 have apart:∀g' c1,h.get g'=some c1->g'≠g->c1.own=true->(m g').isSome=true->∀k,φ g' k->¬S' k:=fun g' c1 h1 hne ho hm k hk hS'=>by
  rcases hS k hS' with h'|h'
  ·exact H.dis g g' c c1 hg h1 (Ne.symm hne) hc ho hps hm k h' hk
  ·obtain ⟨p',hp'⟩:=Option.isSome_iff_exists.1 hm
   have:=(H.blk g' c1 h1 p' hp').lt ho hk
   omega
 refine ⟨nI H.below hu (fun b hb=>hlow b hb),fun g' c1 h1 p' hp'=> ?_,fun g1 g2 c1 c2 h1 h2 hne o1 o2 m1 m2 k hk=> ?_,fun g' c1 h1 o1 m1 k hk=> ?_,H.dom⟩
 ·rcases Hp.get_put h1 with ⟨rfl,rfl⟩|⟨hne,h1'⟩
  ·rw [hp] at hp';cases hp'
   simp only [Ph.set,if_pos]
   exact hb
  ·simp only [Ph.set,if_neg hne]
   exact (H.blk g' c1 h1' p' hp').same fun ho k hk=>hu.block k ((H.blk g' c1 h1' p' hp').lt ho hk) (fun hk'=>H.dis g g' c c1 hg h1' (Ne.symm hne) hc ho hps (by rw [hp'];rfl) k hk' hk)
 ·rcases Hp.get_put h1 with ⟨rfl,rfl⟩|⟨hne1,h1'⟩
  ·rcases Hp.get_put h2 with ⟨rfl,rfl⟩|⟨hne2,h2'⟩
   ·exact absurd rfl hne
   ·simp only [Ph.set,if_pos,if_neg hne2] at hk ⊢
    exact fun hk'=>apart g2 c2 h2' hne2 o2 m2 k hk' hk
  ·rcases Hp.get_put h2 with ⟨rfl,rfl⟩|⟨hne2,h2'⟩
   ·simp only [Ph.set,if_pos,if_neg hne1] at hk ⊢
    exact apart g1 c1 h1' hne1 o1 m1 k hk
   ·simp only [Ph.set,if_neg hne1,if_neg hne2] at hk ⊢
    exact H.dis g1 g2 c1 c2 h1' h2' hne o1 o2 m1 m2 k hk
 ·rcases Hp.get_put h1 with ⟨rfl,rfl⟩|⟨hne,h1'⟩
  ·simp only [Ph.set,if_pos] at hk
   exact key k hk
  ·simp only [Ph.set,if_neg hne] at hk
   exact H.fresh g' c1 h1' o1 m1 k hk
theorem move (H:SR O w0 w m φ h) {g:Nat} {c c':AB O.X} {p q:Pl} (hg:h.get g=some c) (hc:c.own=true) (hp:m g=some p) {S':Nat->Prop} (hu:Upd (φ g) w w')
  (hb:mO O w0 w' (m.set h.n q) q S' c') (hc':c'.own=true) (hS:∀k,S' k->φ g k\/w.heap.size<=k):SR O w0 w' (m.set h.n q) (φ.set h.n S') ((h.del g).push c'):=by
 have hps:(m g).isSome=true:=by rw [hp];rfl
 have hlow:=H.fresh g c hg hc hps
 have hsz:=H.below.size
 have hn:=H.lK
 have FI:=Mu.iK hn q
 have hgn:g≠h.n:=fun e=>by rw [e,hn] at hp;cases hp
 have apart:∀g' c1,h.get g'=some c1->g'≠g->c1.own=true->(m g').isSome=true->∀k,φ g' k->¬S' k:=fun g' c1 h1 hne ho hm k hk hS'=>by
  rcases hS k hS' with h'|h'
  ·exact H.dis g g' c c1 hg h1 (Ne.symm hne) hc ho hps hm k h' hk
  ·obtain ⟨p',hp'⟩:=Option.isSome_iff_exists.1 hm
   have:=(H.blk g' c1 h1 p' hp').lt ho hk
   omega
 have hm:∀g',g'≠h.n->m.set h.n q g'=m g':=fun g' hne=>by simp [Mu.set,hne]
 refine ⟨nI H.below hu (fun b hb=>hlow b hb),fun g' c1 h1 p' hp'=> ?_,fun g1 g2 c1 c2 h1 h2 hne o1 o2 m1 m2 k hk=> ?_,fun g' c1 h1 o1 m1 k hk=> ?_,fun g' p' hp'=> ?_⟩
 ·rcases Hp.fO h1 with ⟨e,rfl⟩|⟨hne,h1'⟩
  ·have e:g'=h.n:=e
   subst e
   rw [Mu.set_self] at hp';cases hp'
   simp only [Ph.set,if_pos]
   exact hb
  ·have hne:g'≠h.n:=hne
   obtain ⟨hng,h1'⟩:=Hp.su h1'
   rw [hm g' hne] at hp'
   simp only [Ph.set,if_neg hne]
   exact ((H.blk g' c1 h1' p' hp').ext FI).same fun ho k hk=>hu.block k ((H.blk g' c1 h1' p' hp').lt ho hk) (fun hk'=>H.dis g g' c c1 hg h1' (Ne.symm hng) hc ho hps (by rw [hp'];rfl) k hk' hk)
 ·rcases Hp.fO h1 with ⟨e1,rfl⟩|⟨hne1,h1'⟩
  ·have e1:g1=h.n:=e1
   rcases Hp.fO h2 with ⟨e2,rfl⟩|⟨hne2,h2'⟩
   ·exact absurd (e1.trans (show h.n=g2 from e2.symm)) hne
   ·have hne2:g2≠h.n:=hne2
    obtain ⟨hng,h2'⟩:=Hp.su h2'
    simp only [Ph.set,if_pos e1,if_neg hne2] at hk ⊢
    rw [hm g2 hne2] at m2
    exact fun hk'=>apart g2 c2 h2' hng o2 m2 k hk' hk
  ·have hne1:g1≠h.n:=hne1
   obtain ⟨abG,h1'⟩:=Hp.su h1'
   rw [hm g1 hne1] at m1
   rcases Hp.fO h2 with ⟨e2,rfl⟩|⟨hne2,h2'⟩
   ·have e2:g2=h.n:=e2
    simp only [Ph.set,if_pos e2,if_neg hne1] at hk ⊢
    exact apart g1 c1 h1' abG o1 m1 k hk
   ·have hne2:g2≠h.n:=hne2
    obtain ⟨hng2,h2'⟩:=Hp.su h2'
    rw [hm g2 hne2] at m2
    simp only [Ph.set,if_neg hne1,if_neg hne2] at hk ⊢
    exact H.dis g1 g2 c1 c2 h1' h2' hne o1 o2 m1 m2 k hk
 ·rcases Hp.fO h1 with ⟨e,rfl⟩|⟨hne,h1'⟩
  ·have e:g'=h.n:=e
   simp only [Ph.set,if_pos e] at hk
   rcases hS k hk with h'|h'
   ·exact hlow k h'
   ·omega
  ·have hne:g'≠h.n:=hne
   obtain ⟨hng,h1'⟩:=Hp.su h1'
   simp only [Ph.set,if_neg hne] at hk
   rw [hm g' hne] at m1
   exact H.fresh g' c1 h1' o1 m1 k hk
 ·show g' < h.n+1
  by_cases e:g'=h.n
  ·omega
  ·rw [hm g' e] at hp'
   have:=H.dom g' p' hp'
   omega
theorem new (H:SR O w0 w m φ h) {c':AB O.X} {q:Pl} {S':Nat->Prop} (hu:Below w.heap.size w w') (hb:mO O w0 w' (m.set h.n q) q S' c') (hS:c'.own=true->∀k,S' k->w.heap.size<=k):
  SR O w0 w' (m.set h.n q) (φ.set h.n S') (h.push c'):=by
 have hsz:=H.below.size
 have hn:=H.lK
 have FI:=Mu.iK hn q
 have hm:∀g',g'≠h.n->m.set h.n q g'=m g':=fun g' hne=>by simp [Mu.set,hne]
 refine ⟨nI H.below (Upd.of_below (S:=dG) hu) (fun b hb=>hb.elim),fun g' c1 h1 p' hp'=> ?_,fun g1 g2 c1 c2 h1 h2 hne o1 o2 m1 m2 k hk=> ?_,fun g' c1 h1 o1 m1 k hk=> ?_,fun g' p' hp'=> ?_⟩
 ·rcases Hp.fO h1 with ⟨rfl,rfl⟩|⟨hne,h1'⟩
  ·rw [Mu.set_self] at hp';cases hp'
   simp only [Ph.set,if_pos]
   exact hb
  ·rw [hm g' hne] at hp'
   simp only [Ph.set,if_neg hne]
   exact ((H.blk g' c1 h1' p' hp').ext FI).same fun ho k hk=>hu.block k ((H.blk g' c1 h1' p' hp').lt ho hk)
 ·have old:∀g c,h.get g=some c->g≠h.n->c.own=true->(m.set h.n q g).isSome=true->∀k,φ g k->k < w.heap.size:=fun g c hg hne o hi k hk=>by
   rw [hm g hne] at hi
   obtain ⟨p',hp'⟩:=Option.isSome_iff_exists.1 hi
   exact (H.blk g c hg p' hp').lt o hk
  rcases Hp.fO h1 with ⟨e1,rfl⟩|⟨hne1,h1'⟩
  ·rcases Hp.fO h2 with ⟨e2,rfl⟩|⟨hne2,h2'⟩
   ·exact absurd (e1.trans e2.symm) hne
   ·simp only [Ph.set,if_pos e1,if_neg hne2] at hk ⊢
    intro hk'
    have h3:=old g2 c2 h2' hne2 o2 m2 k hk'
    have h4:=hS o1 k hk
    omega
  ·rcases Hp.fO h2 with ⟨e2,rfl⟩|⟨hne2,h2'⟩
   ·simp only [Ph.set,if_pos e2,if_neg hne1] at hk ⊢
    intro hk'
    have h3:=old g1 c1 h1' hne1 o1 m1 k hk
    have h4:=hS o2 k hk'
    omega
   ·rw [hm g1 hne1] at m1
    rw [hm g2 hne2] at m2
    simp only [Ph.set,if_neg hne1,if_neg hne2] at hk ⊢
    exact H.dis g1 g2 c1 c2 h1' h2' hne o1 o2 m1 m2 k hk
 ·rcases Hp.fO h1 with ⟨e,rfl⟩|⟨hne,h1'⟩
  ·simp only [Ph.set,if_pos e] at hk
   have:=hS o1 k hk
   omega
  ·simp only [Ph.set,if_neg hne] at hk
   rw [hm g' hne] at m1
   exact H.fresh g' c1 h1' o1 m1 k hk
 ·show g' < h.n+1
  by_cases e:g'=h.n
  ·omega
  ·rw [hm g' e] at hp'
   have:=H.dom g' p' hp'
   omega
theorem row (H:SR O w0 w m φ h) {g:Nat} {l:List AV} {p:Pl} (hp:m g=some p) (hg:h.get g=some (.rw l)\/h.get g=some (.ro l)):
  Dz m l (fun i=>w.cell? ⟨p.b,p.s+i,none⟩)/\p.s+l.length<=p.e:=by
 rcases hg with hg|hg
 ·obtain ⟨cs,ty,fz,h1,_,_,h4,h5,_⟩:=H.blk g _ hg p hp
  refine ⟨fun i v hi=> ?_,h4⟩
  obtain ⟨v',a,b⟩:=h5 i v hi
  exact ⟨v',by simp only [World.cell?,h1];exact a,b⟩
 ·obtain ⟨h1,h2,h3⟩:=H.blk g _ hg p hp
  refine ⟨fun i v hi=> ?_,h2⟩
  obtain ⟨v',a,b⟩:=h3 i v hi
  exact ⟨v',(H.below.cell (p:=⟨p.b,p.s+i,none⟩) h1).trans a,b⟩
end SR
abbrev En:=List (Nat×AV)
def lookE (d:Nat):En->AV
 |[]=> .bot
 |(k,v)::e=>bif Nat.beq k d then v else lookE d e
def getS:List AV->Nat->AV
 |[],_=> .bot
 |v::_,0=>v
 |_::t,n+1=>getS t n
def setS:List AV->Nat->AV->List AV
 |[],_,_=>[]
 |_::t,0,v=>v::t
 |x::t,n+1,v=>x::setS t n v
inductive Od where
 |slot (i:Nat)
 |env (d:Nat)
 |const (v:AV)
 deriving Inhabited
def Od.ev (x:Od) (e:En) (t:List AV):AV:=
 match x with
 | .slot i=>getS t i
 | .env d=>lookE d e
 | .const v=>v
inductive Ds where
 |none
 |slot (i:Nat)
 |env (d:Nat)
 deriving Inhabited
def AV.onInt {α:Type} (v:AV) (f:IntKind->Int->Option α):Option α:=match v with| .int k n=>f k n|_=>none
def AV.onBool {α:Type} (v:AV) (f:Bool->Option α):Option α:=match v with| .bool b=>f b|_=>none
def AV.onStr {α:Type} (v:AV) (f:List UInt8->Option α):Option α:=match v with| .str s=>f s|_=>none
def AV.onPtr {α:Type} (v:AV) (f:Nat->Nat->Option α):Option α:=match v with| .ptr g o=>f g o|_=>none
def AV.onAgg {α:Type} (v:AV) (f:List AV->Option α):Option α:=match v with| .agg l=>f l|_=>none
def AV.onTup {α:Type} (v:AV) (f:List AV->Option α):Option α:=match v with| .tup l=>f l|_=>none
theorem AV.gG {α:Type} {v:AV} {f:IntKind->Int->Option α} {r:α} (h:v.onInt f=some r):∃k n,v= .int k n/\f k n=some r:=by
 cases v<;>simp only [AV.onInt] at h<;>first|exact ⟨_,_,rfl,h⟩|cases h
theorem AV.qK {α:Type} {v:AV} {f:Bool->Option α} {r:α} (h:v.onBool f=some r):∃b,v= .bool b/\f b=some r:=by
 cases v<;>simp only [AV.onBool] at h<;>first|exact ⟨_,rfl,h⟩|cases h
theorem AV.lL {α:Type} {v:AV} {f:List UInt8->Option α} {r:α} (h:v.onStr f=some r):∃b,v= .str b/\f b=some r:=by
 cases v<;>simp only [AV.onStr] at h<;>first|exact ⟨_,rfl,h⟩|cases h
theorem AV.jC {α:Type} {v:AV} {f:Nat->Nat->Option α} {r:α} (h:v.onPtr f=some r):∃g o,v= .ptr g o/\f g o=some r:=by
 cases v<;>simp only [AV.onPtr] at h<;>first|exact ⟨_,_,rfl,h⟩|cases h
theorem AV.pO {α:Type} {v:AV} {f:List AV->Option α} {r:α} (h:v.onAgg f=some r):∃b,v= .agg b/\f b=some r:=by
 cases v<;>simp only [AV.onAgg] at h<;>first|exact ⟨_,rfl,h⟩|cases h
theorem AV.IL {α:Type} {v:AV} {f:List AV->Option α} {r:α} (h:v.onTup f=some r):∃b,v= .tup b/\f b=some r:=by
 cases v<;>simp only [AV.onTup] at h<;>first|exact ⟨_,rfl,h⟩|cases h
def wr (k:IntKind) (n:Int):Int:=k.wrap n
def eqv (op:BinOp) (b:Bool):Option AV:=match op with| .eql=>some (.bool b)| .neq=>some (.bool (!b))|_=>none
def intOp (op:BinOp) (k:IntKind) (a b:Int):Option AV:=
 match op with
 | .add=>some (.int k (wr k (a+b)))
 | .sub=>some (.int k (wr k (a - b)))
 | .mul=>some (.int k (wr k (a*b)))
 | .quo=>if b=0 then none else some (.int k (wr k (a.tdiv b)))
 | .rem=>if b=0 then none else some (.int k (a.tmod b))
 | .and=>some (.int k (wr k ((BitVec.ofInt k.bits a &&& BitVec.ofInt k.bits b).toNat)))
 | .or=>some (.int k (wr k ((BitVec.ofInt k.bits a|||BitVec.ofInt k.bits b).toNat)))
 | .xor=>some (.int k (wr k ((BitVec.ofInt k.bits a^^^BitVec.ofInt k.bits b).toNat)))
 | .andNot=>some (.int k (wr k ((BitVec.ofInt k.bits a &&& ~~~ BitVec.ofInt k.bits b).toNat)))
 | .shl=>if b < 0 then none else some (.int k (wr k (a*2^(min b.toNat k.bits))))
 | .shr=>if b < 0 then none else some (.int k (a.fdiv (2^(min b.toNat k.bits))))
 | .eql=>some (.bool (a==b))
 | .neq=>some (.bool (a !=b))
 | .lss=>some (.bool (decide (a < b)))
 | .leq=>some (.bool (decide (a<=b)))
 | .gtr=>some (.bool (decide (b < a)))
 | .geq=>some (.bool (decide (b<=a)))
def strOp (op:BinOp) (a b:List UInt8):Option AV:=
 match op with
 | .add=>if a.length+b.length<=8388608 then some (.str (a++b)) else none
 | .eql=>some (.bool (a==b))
 | .neq=>some (.bool (!(a==b)))
 | .lss=>some (.bool (Op.bytesLess a b))
 | .leq=>some (.bool (Op.bytesLess a b||a==b))
 | .gtr=>some (.bool (!(Op.bytesLess a b||a==b)))
 | .geq=>some (.bool (!Op.bytesLess a b))
 |_=>none
inductive Eq where
 |no|bool|ptr|slice|func
 deriving DecidableEq
def isShift (op:BinOp):Bool:=match op with| .shl| .shr=>true|_=>false
def bin (op:BinOp) (q:Eq) (x y:AV):Option AV:=
 match x with
 | .int k a=>y.onInt fun k' b=>bif isShift op||decide (k=k') then intOp op k a b else none
 | .str a=>y.onStr fun b=>strOp op a b
 | .bool a=>if q= .bool then y.onBool fun b=>eqv op (a==b) else none
 | .bU=>if q= .ptr then (match y with| .bU=>eqv op true| .ptr _ _=>eqv op false|_=>none) else none
 | .ptr g o=>if q= .ptr then (match y with| .bU=>eqv op false| .ptr g' o'=>if g=g' then eqv op (decide (o=o')) else none|_=>none) else none
 | .ae=>if q= .slice then (match y with| .ae=>eqv op true| .slice ..=>eqv op false|_=>none) else none
 | .slice ..=>if q= .slice then (match y with| .ae=>eqv op false|_=>none) else none
 | .qJ=>if q= .func then (match y with| .qJ=>eqv op true| .func ..=>eqv op false|_=>none) else none
 | .func ..=>if q= .func then (match y with| .qJ=>eqv op false|_=>none) else none
 |_=>none
def eqOf (P:Program) (t:TypeId):Eq:=
 match P.underlying t with
 |some .bool=> .bool
 |some (.pointer e)=>match P.info? e with|some i=>if i.size=0 then .no else .ptr|none=> .no
 |some (.slice _)=> .slice
 |some (.func ..)=> .func
 |_=> .no
variable {P:Program}
theorem UY {op:BinOp} {k k':IntKind} {a b:Int} {v:AV} {m:Mu} {t:TypeId} {w:World} (hk:isShift op=true\/k=k') (h:intOp op k a b=some v):
  ∃v',VR m v v'/\(binOp op t (.int k a) (.int k' b)).run P w= .ok v' w:=by
 by_cases hs:isShift op=true
 ·cases op<;>first|(simp [isShift] at hs;done)|skip
  all_goals
   simp only [intOp] at h
   split at h
   ·cases h
   ·rename_i h0
    cases h
    refine ⟨_,rfl, ?_⟩
    simp [binOp,Op.shift,wr,h0]
 ·have e:k=k':=by rcases hk with h1|h1;exact absurd h1 hs;exact h1
  subst e
  have red:∀(op':BinOp),isShift op'=false->∀r,(match op' with
    | .add| .sub| .mul=>Op.intArith op' k a b
    | .quo| .rem=>Op.intDiv op' k a b
    | .and| .or| .xor| .andNot=>Op.intBits op' k a b
    |_=>Op.intCmp op' a b).run P w=r->(binOp op' t (.int k a) (.int k b)).run P w=r:=by
   intro op' h1 r h2
   cases op'<;>first|(cases h1;done)|(simp only [binOp,ne_eq,not_true_eq_false,if_false];exact h2)
  cases op<;>first|(exact absurd rfl hs)|skip
  all_goals
   simp only [intOp] at h
   first
    |(cases h;refine ⟨_,rfl,red _ rfl _ ?_⟩;rfl)
    |(
      split at h
      ·cases h
      ·rename_i h0
       cases h
       refine ⟨_,rfl,red _ rfl _ ?_⟩
       simp [Op.intDiv,wr,h0])
theorem PI (a:List UInt8):(⟨a.toArray⟩:ByteArray).toList=a:=ByteArray.toList_mk a
theorem UZ {op:BinOp} {a b:List UInt8} {v:AV} {m:Mu} {t:TypeId} {w:World} (h:strOp op a b=some v):
  ∃v',VR m v v'/\(binOp op t (.string ⟨a.toArray⟩) (.string ⟨b.toArray⟩)).run P w= .ok v' w:=by
 have key:∀r,strOp op a b=some r->∃v',VR m r v'/\(Op.stringOp op ⟨a.toArray⟩ ⟨b.toArray⟩).run P w= .ok v' w:=by
  intro r hr
  cases op<;>simp only [strOp] at hr<;>first
   |(cases hr;done)
   |(cases hr;refine ⟨_,rfl, ?_⟩;simp [Op.stringOp,PI];done)
   |skip
  split at hr
  ·rename_i hl
   cases hr
   refine ⟨_,rfl, ?_⟩
   rw [run_string_add_lists w a b (by omega) (by omega)]
  ·cases hr
 obtain ⟨v',h1,h2⟩:=key v h
 refine ⟨v',h1, ?_⟩
 cases op<;>first|exact h2|(simp only [strOp] at h;cases h)
theorem PK {op:BinOp} {b:Bool} {v:AV} (h:eqv op b=some v):(op= .eql/\v= .bool b)\/(op= .neq/\v= .bool (!b)):=by
 cases op<;>simp only [eqv] at h<;>first|(cases h;done)|(cases h;exact .inl ⟨rfl,rfl⟩)|(cases h;exact .inr ⟨rfl,rfl⟩)
theorem lM {op:BinOp} {b:Bool} {v:AV} {m:Mu} {t:TypeId} {w:World} {x y:Value} (h:eqv op b=some v) (hx:∀op',op'= .eql\/op'= .neq->binOp op' t x y=(match op' with| .eql=>do pure (.bool (<-Op.equal t x y))|_=>do pure (.bool (!(<-Op.equal t x y))):Sem Value))
  (he:(Op.equal t x y).run P w= .ok b w):∃v',VR m v v'/\(binOp op t x y).run P w= .ok v' w:=by
 rcases PK h with ⟨rfl,rfl⟩|⟨rfl,rfl⟩
 ·refine ⟨_,rfl, ?_⟩
  rw [hx _ (.inl rfl)]
  simp [he]
 ·refine ⟨_,rfl, ?_⟩
  rw [hx _ (.inr rfl)]
  simp [he]
theorem IM {t:TypeId} {w:World} {a b:Bool} (h:P.underlying t=some .bool):(Op.equal t (.bool a) (.bool b)).run P w= .ok (a==b) w:=by
 show (Op.equalIn (9999+1) _ _ _).run P w=_
 generalize 9999=dep
 simp [Op.equalIn,run_underlying h]
theorem sD {t e:TypeId} {w:World} {a b:Option Addr} {i:TypeInfo} (h:P.underlying t=some (.pointer e)) (hi:P.info? e=some i) (hs:i.size≠0) (r:Bool)
  (hr:(a=none/\r=b.isNone)\/(a≠none/\b=none/\r=false)\/(∃x y,a=some x/\b=some y/\x.block=y.block/\r=(x==y))):(Op.equal t (.pointer a) (.pointer b)).run P w= .ok r w:=by
 show (Op.equalIn (9999+1) _ _ _).run P w=_
 generalize 9999=dep
 rcases hr with ⟨rfl,rfl⟩|⟨ha,rfl,rfl⟩|⟨x,y,rfl,rfl,hb,rfl⟩
 ·simp [Op.equalIn,run_underlying h]
 ·cases a with
  |none=>exact absurd rfl ha
  |some x=>simp [Op.equalIn,run_underlying h]
 ·simp [Op.equalIn,run_underlying h,sizeOf,typeInfo,hi,hs,sameAddr,hb]
theorem qL {t e:TypeId} {w:World} {a b:Option Addr} {l l' c c':Nat} (h:P.underlying t=some (.slice e)) (r:Bool) (hr:(a=none/\r=b.isNone)\/(a≠none/\b=none/\r=false)):
  (Op.equal t (.slice a l c) (.slice b l' c')).run P w= .ok r w:=by
 show (Op.equalIn (9999+1) _ _ _).run P w=_
 generalize 9999=dep
 rcases hr with ⟨rfl,rfl⟩|⟨ha,rfl,rfl⟩
 ·simp [Op.equalIn,run_underlying h]
 ·cases a with
  |none=>exact absurd rfl ha
  |some x=>simp [Op.equalIn,run_underlying h]
theorem uu {t:TypeId} {p1 p2:Array TypeId} {p3:Bool} {w:World} {x y:Value} (h:P.underlying t=some (.func p1 p2 p3)) (r:Bool)
  (hr:(x= .nilFunc/\y= .nilFunc/\r=true)\/(x= .nilFunc/\(∃a b c,y= .func a b c)/\r=false)\/((∃a b c,x= .func a b c)/\y= .nilFunc/\r=false)):(Op.equal t x y).run P w= .ok r w:=by
 show (Op.equalIn (9999+1) _ _ _).run P w=_
 generalize 9999=dep
 rcases hr with ⟨rfl,rfl,rfl⟩|⟨rfl,⟨_,_,_,rfl⟩,rfl⟩|⟨⟨_,_,_,rfl⟩,rfl,rfl⟩<;>simp [Op.equalIn,run_underlying h]
theorem Yq {op:BinOp} {q:Eq} {x y v:AV} {m:Mu} {t:TypeId} {w:World} {x' y':Value} (hq:eqOf P t=q) (hx:VR m x x') (hy:VR m y y') (h:bin op q x y=some v):
  ∃v',VR m v v'/\(binOp op t x' y').run P w= .ok v' w:=by
 have hp:q= .ptr->∃e i,P.underlying t=some (.pointer e)/\P.info? e=some i/\i.size≠0:=by
  intro e;subst e
  unfold eqOf at hq
  split at hq<;>first|(cases hq;done)|skip
  rename_i e hu
  split at hq
  ·rename_i i hi
   split at hq
   ·cases hq
   ·exact ⟨e,i,hu,hi,by assumption⟩
  ·cases hq
 have hs:q= .slice->∃e,P.underlying t=some (.slice e):=by
  intro e;subst e
  unfold eqOf at hq
  split at hq<;>first|(cases hq;done)|(exact ⟨_,by assumption⟩)|skip
  split at hq<;>first|(cases hq;done)|skip
  split at hq<;>cases hq
 have hf:q= .func->∃a b c,P.underlying t=some (.func a b c):=by
  intro e;subst e
  unfold eqOf at hq
  split at hq<;>first|(cases hq;done)|(exact ⟨_,_,_,by assumption⟩)|skip
  split at hq<;>first|(cases hq;done)|skip
  split at hq<;>cases hq
 have hb:q= .bool->P.underlying t=some .bool:=by
  intro e;subst e
  unfold eqOf at hq
  split at hq<;>first|(cases hq;done)|assumption|skip
  split at hq<;>first|(cases hq;done)|skip
  split at hq<;>cases hq
 cases x with
 |int k a=>
  simp only [bin] at h
  obtain ⟨k',b,rfl,h2⟩:=AV.gG h
  clear h
  simp only [VR] at hx hy
  subst hx;subst hy
  cases hc:(isShift op||decide (k=k')) with
  |false=>rw [hc] at h2;cases h2
  |true=>rw [hc] at h2;exact UY (by simpa using hc) h2
 |str a=>
  simp only [bin] at h
  obtain ⟨b,rfl,h2⟩:=AV.lL h
  simp only [VR] at hx hy
  subst hx;subst hy
  exact UZ h2
 |bool a=>
  simp only [bin] at h
  split at h
  ·rename_i e
   obtain ⟨b,rfl,h2⟩:=AV.qK h
   simp only [VR] at hx hy
   subst hx;subst hy
   exact lM h2 (by rintro op' (rfl|rfl)<;>rfl) (IM (hb e))
  ·cases h
 |bU=>
  simp only [bin] at h
  split at h
  ·rename_i e
   obtain ⟨el,i,h1,h2,h3⟩:=hp e
   simp only [VR] at hx
   subst hx
   cases y<;>simp only [] at h<;>first|(cases h;done)|skip
   ·obtain ⟨p,_,rfl⟩:=hy
    exact lM h (by rintro op' (rfl|rfl)<;>rfl) (sD h1 h2 h3 _ (.inl ⟨rfl,rfl⟩))
   ·simp only [VR] at hy
    subst hy
    exact lM h (by rintro op' (rfl|rfl)<;>rfl) (sD h1 h2 h3 _ (.inl ⟨rfl,rfl⟩))
  ·cases h
 |ptr g o=>
  simp only [bin] at h
  split at h
  ·rename_i e
   obtain ⟨el,i,h1,h2,h3⟩:=hp e
   obtain ⟨p,hp1,rfl⟩:=hx
   cases y<;>simp only [] at h<;>first|(cases h;done)|skip
   ·split at h
    ·rename_i eg
     subst eg
     obtain ⟨p',hp',rfl⟩:=hy
     rw [hp1] at hp';cases hp'
     refine lM h (by rintro op' (rfl|rfl)<;>rfl) (sD h1 h2 h3 _ (.inr (.inr ⟨_,_,rfl,rfl,rfl, ?_⟩)))
     rw [Bool.eq_iff_iff]
     simp
    ·cases h
   ·simp only [VR] at hy
    subst hy
    exact lM h (by rintro op' (rfl|rfl)<;>rfl) (sD h1 h2 h3 _ (.inr (.inl ⟨by simp,rfl,rfl⟩)))
  ·cases h
 |ae=>
  simp only [bin] at h
  split at h
  ·rename_i e
   obtain ⟨el,h1⟩:=hs e
   simp only [VR] at hx
   subst hx
   cases y<;>simp only [] at h<;>first|(cases h;done)|skip
   ·obtain ⟨p,ad,c,_,rfl,_⟩:=hy
    exact lM h (by rintro op' (rfl|rfl)<;>rfl) (qL h1 _ (.inl ⟨rfl,rfl⟩))
   ·simp only [VR] at hy
    subst hy
    exact lM h (by rintro op' (rfl|rfl)<;>rfl) (qL h1 _ (.inl ⟨rfl,rfl⟩))
  ·cases h
 |slice z g o l c=>
  simp only [bin] at h
  split at h
  ·rename_i e
   obtain ⟨el,h1⟩:=hs e
   obtain ⟨p,ad,c,_,rfl,_⟩:=hx
   cases y<;>simp only [] at h<;>first|(cases h;done)|skip
   simp only [VR] at hy
   subst hy
   exact lM h (by rintro op' (rfl|rfl)<;>rfl) (qL h1 _ (.inr ⟨by simp,rfl,rfl⟩))
  ·cases h
 |qJ=>
  simp only [bin] at h
  split at h
  ·rename_i e
   obtain ⟨_,_,_,h1⟩:=hf e
   simp only [VR] at hx
   subst hx
   cases y<;>simp only [] at h<;>first|(cases h;done)|skip
   ·obtain ⟨_,rfl,_⟩:=hy
    exact lM h (by rintro op' (rfl|rfl)<;>rfl) (uu h1 _ (by first|exact .inl ⟨rfl,rfl,rfl⟩|exact .inr (.inl ⟨rfl,⟨_,_,_,rfl⟩,rfl⟩)|exact .inr (.inr ⟨⟨_,_,_,rfl⟩,rfl,rfl⟩)))
   ·simp only [VR] at hy
    subst hy
    exact lM h (by rintro op' (rfl|rfl)<;>rfl) (uu h1 _ (by first|exact .inl ⟨rfl,rfl,rfl⟩|exact .inr (.inl ⟨rfl,⟨_,_,_,rfl⟩,rfl⟩)|exact .inr (.inr ⟨⟨_,_,_,rfl⟩,rfl,rfl⟩)))
  ·cases h
 |func f cs=>
  simp only [bin] at h
  split at h
  ·rename_i e
   obtain ⟨_,_,_,h1⟩:=hf e
   obtain ⟨_,rfl,_⟩:=hx
   cases y<;>simp only [] at h<;>first|(cases h;done)|skip
   simp only [VR] at hy
   subst hy
   exact lM h (by rintro op' (rfl|rfl)<;>rfl) (uu h1 _ (by first|exact .inl ⟨rfl,rfl,rfl⟩|exact .inr (.inl ⟨rfl,⟨_,_,_,rfl⟩,rfl⟩)|exact .inr (.inr ⟨⟨_,_,_,rfl⟩,rfl,rfl⟩)))
  ·cases h
 |iface _ _=>cases h
 |FH=>cases h
 |agg _=>cases h
 |tup _=>cases h
 |bot=>cases h
 |bV=>cases h
 |meth _ _=>cases h
set_option maxRecDepth 10000
theorem Bc (t:List AV) (i:Nat) (v:AV):∀j,getS (setS t i v) j=if j=i/\i < t.length then v else getS t j:=by
 induction t generalizing i with
 |nil=>intro j;cases i<;>simp [setS,getS]
 |cons x t ih=>
  intro j
  cases i with
  |zero=>cases j<;>simp [setS,getS]
  |succ i=>
   cases j with
   |zero=>simp [setS,getS]
   |succ j=>simp only [setS,getS,ih];simp
theorem uU (t:List AV) (i:Nat) (v:AV):(setS t i v).length=t.length:=by
 induction t generalizing i with
 |nil=>cases i<;>rfl
 |cons x t ih=>cases i<;>simp [setS,ih]
structure FR (m:Mu) (keep:List Nat) (nt:Nat) (e:En) (t:List AV) (a:Act):Prop where
 size:a.tmps.size=nt
 len:t.length=keep.length
 nd:keep.Nodup
 env:∀d,d∉keep->VR m (lookE d e) (a.tmps.getD d undef)
 slot:∀(i d:Nat),keep[i]?=some d->VR m (getS t i) (a.tmps.getD d undef)
theorem FR.ext {m m':Mu} {keep:List Nat} {nt:Nat} {e:En} {t:List AV} {a:Act} (h:Ext m m') (f:FR m keep nt e t a):FR m' keep nt e t a:=
 ⟨f.size,f.len,f.nd,fun d hd=>(f.env d hd).ext h,fun i d hi=>(f.slot i d hi).ext h⟩
theorem FR.void {m:Mu} {keep:List Nat} {nt:Nat} {e:En} {t:List AV} {a:Act} (f:FR m keep nt e t a):FR m keep nt [] t a:=
 ⟨f.size,f.len,f.nd,fun d hd=>by simp [lookE,VR],f.slot⟩
def avOf1:Value->Option AV
 | .int k n=>some (.int k n)
 | .bool b=>some (.bool b)
 | .string s=>some (.str s.data.toList)
 | .pointer none=>some .bU
 | .slice none 0 0=>some .ae
 | .nilFunc=>some .qJ
 | .nilIface=>some .FH
 |_=>none
def avOfs:List Value->Option (List AV)
 |[]=>some []
 |v::l=>match avOf1 v with|some a=>(match avOfs l with|some b=>some (a::b)|none=>none)|none=>none
def avOf (v:Value):Option AV:=
 match v with
 | .agg cs=>match avOfs cs.toList with|some l=>some (.agg l)|none=>none
 |v=>avOf1 v
theorem FK {v:Value} {a:AV} (m:Mu) (h:avOf1 v=some a):VR m a v/\a.one=true:=by
 unfold avOf1 at h
 split at h<;>cases h<;>simp [VR,AV.one]
theorem gI (m:Mu):∀{l:List Value} {r:List AV},avOfs l=some r->VRs m r l/\∀a∈r,a.one=true
 |[],r,h=>by cases h;simp [VRs]
 |v::l,r,h=>by
  unfold avOfs at h
  cases h1:avOf1 v with
  |none=>rw [h1] at h;cases h
  |some a=>
   rw [h1] at h
   cases h2:avOfs l with
   |none=>rw [h2] at h;cases h
   |some b=>
    rw [h2] at h
    cases h
    obtain ⟨i1,i2⟩:=gI m h2
    obtain ⟨j1,j2⟩:=FK m h1
    refine ⟨by simp only [VRs];exact ⟨v,l,rfl,j1,i1⟩,fun x hx=> ?_⟩
    rcases List.mem_cons.1 hx with rfl|hx
    ·exact j2
    ·exact i2 x hx
theorem U0 {v:Value} {a:AV} (m:Mu) (h:avOf v=some a):VR m a v:=by
 unfold avOf at h
 split at h
 ·rename_i cs
  split at h
  ·rename_i l hl
   cases h
   simp only [VR]
   exact ⟨cs.toList,by simp,(gI m hl).1⟩
  ·cases h
 ·exact (FK m h).1
def odOf (keep:List Nat) (x:Operand):Option Od:=
 match x with
 | .tmp n=>some (match keep.idxOf? n with|some i=> .slot i|none=> .env n)
 | .const v=>match avOf v with|some a=>some (.const a)|none=>none
 | .func f=>some (.const (.func f []))
 | .global _=>none
def dsOf (keep:List Nat) (d:Option Nat):Ds:=
 match d with
 |none=> .none
 |some n=>match keep.idxOf? n with|some i=> .slot i|none=> .env n
section
variable {m:Mu} {keep:List Nat} {nt:Nat} {e:En} {t:List AV} {a:Act}
theorem FN {n i:Nat} (h:keep.idxOf? n=some i):keep[i]?=some n:=by
 rw [List.idxOf?,List.findIdx?_eq_some_iff_getElem] at h
 obtain ⟨h1,h2,_⟩:=h
 rw [List.getElem?_eq_getElem h1]
 simpa using h2
theorem FO {n:Nat} (h:keep.idxOf? n=none):n∉keep:=by
 rw [List.idxOf?,List.findIdx?_eq_none_iff] at h
 intro hn
 have:=h n hn
 simp at this
theorem FR.od (f:FR m keep nt e t a) {x:Operand} {o:Od} (h:odOf keep x=some o):VR m (o.ev e t) (a.eval x):=by
 unfold odOf at h
 cases x with
 |tmp n=>
  simp only at h
  cases h
  cases hi:keep.idxOf? n with
  |some i=>exact f.slot i n (FN hi)
  |none=>exact f.env n (FO hi)
 |const v=>
  simp only at h
  cases hv:avOf v with
  |none=>rw [hv] at h;cases h
  |some b=>rw [hv] at h;cases h;exact U0 m hv
 |func f=>cases h;simp [Od.ev,VR,VRs,Act.eval]
 |global g=>cases h
def putE (d:Ds) (v:AV) (e:En):En:=match d with| .env k=>(k,v)::e|_=>e
def putT (d:Ds) (v:AV) (t:List AV):List AV:=match d with| .slot i=>setS t i v|_=>t
theorem FR.put (f:FR m keep nt e t a) {d:Option Nat} (hd:∀n,d=some n->n < nt) {v:AV} {v':Value} (hv:VR m v v'):
  FR m keep nt (putE (dsOf keep d) v e) (putT (dsOf keep d) v t) (a.put d v'):=by
 cases d with
 |none=>exact f
 |some n=>
  have hn:=hd n rfl
  have hget:∀k,(a.tmps.setIfInBounds n v').getD k undef=if k=n then v' else a.tmps.getD k undef:=fun k=>by
   rw [Array.getD_eq_getD_getElem?,Array.getD_eq_getD_getElem?,Array.getElem?_setIfInBounds]
   by_cases e:n=k
   ·subst e
    have hlt:n < a.tmps.size:=by rw [f.size];exact hn
    simp [hlt]
   ·rw [if_neg e,if_neg (Ne.symm e)]
  cases hi:keep.idxOf? n with
  |some i=>
   have hk:=FN hi
   rw [show dsOf keep (some n)= .slot i by simp only [dsOf,hi]]
   have hmem:n∈keep:=List.mem_of_getElem? hk
   refine ⟨by show (a.tmps.setIfInBounds n v').size=nt;rw [Array.size_setIfInBounds];exact f.size,by show (setS t i v).length=_;rw [uU];exact f.len,f.nd,fun k hkk=> ?_,fun j k hjk=> ?_⟩
   ·show VR m (lookE k e) ((a.tmps.setIfInBounds n v').getD k undef)
    rw [hget,if_neg (fun e=>hkk (by rw [e];exact hmem))]
    exact f.env k hkk
   ·show VR m (getS (setS t i v) j) ((a.tmps.setIfInBounds n v').getD k undef)
    rw [hget,Bc]
    have hilt:i < t.length:=by rw [f.len];exact (List.getElem?_eq_some_iff.1 hk).1
    by_cases hji:j=i
    ·subst hji
     rw [hk] at hjk;cases hjk
     rw [if_pos ⟨rfl,hilt⟩,if_pos rfl]
     exact hv
    ·rw [if_neg (fun h=>hji h.1),if_neg]
     ·exact f.slot j k hjk
     ·intro e
      subst e
      obtain ⟨h1,h2⟩:=List.getElem?_eq_some_iff.1 hk
      obtain ⟨h3,h4⟩:=List.getElem?_eq_some_iff.1 hjk
      rcases Nat.lt_or_gt_of_ne hji with hlt|hlt
      ·exact List.pairwise_iff_getElem.1 f.nd j i h3 h1 hlt (h4.trans h2.symm)
      ·exact List.pairwise_iff_getElem.1 f.nd i j h1 h3 hlt (h2.trans h4.symm)
  |none=>
   have hno:=FO hi
   rw [show dsOf keep (some n)= .env n by simp only [dsOf,hi]]
   refine ⟨by show (a.tmps.setIfInBounds n v').size=nt;rw [Array.size_setIfInBounds];exact f.size,f.len,f.nd,fun k hkk=> ?_,fun j k hjk=> ?_⟩
   ·show VR m (lookE k ((n,v)::e)) ((a.tmps.setIfInBounds n v').getD k undef)
    rw [hget]
    by_cases hkn:k=n
    ·subst hkn
     rw [if_pos rfl]
     simp only [lookE,Nat.beq_refl,cond_true]
     exact hv
    ·rw [if_neg hkn]
     simp only [lookE,tY (Ne.symm hkn),cond_false]
     exact f.env k hkk
   ·show VR m (getS t j) ((a.tmps.setIfInBounds n v').getD k undef)
    rw [hget,if_neg]
    ·exact f.slot j k hjk
    ·intro e
     subst e
     exact hno (List.mem_of_getElem? hjk)
end
def eqF (k:Nat) (a b:AV):Option Bool:=
 match a,b with
 | .int i m, .int j n=>bif Nat.beq k 0 && decide (i=j) then some (m==n) else none
 | .bool m, .bool n=>bif Nat.beq k 1 then some (m==n) else none
 | .str m, .str n=>bif Nat.beq k 2 then some (m==n) else none
 |_,_=>none
def eqFs:List Nat->List AV->List AV->Option Bool
 |[],[],[]=>some true
 |k::ks,a::l,b::r=>(match eqF k a b with|some true=>eqFs ks l r|some false=>some false|none=>none)
 |_,_,_=>none
inductive Mv where
 |mv (x:Od)
 |pick (c x y:Od)
 |bin (op:BinOp) (q:Eq) (x y:Od)
 |jd (x:Od)
 |neg (x:Od)
 |conv (k:IntKind) (x:Od)
 |b2s (x:Od)
 |i2s (x:Od)
 |FP (x:Od)
 |U1 (off:Nat) (x:Od)
 |U2 (off n:Nat) (x:Od)
 |ext (i:Nat) (x:Od)
 |bld (zero:List AV) (parts:List (Nat×Nat×Od))
 |aG (off:Nat) (x:Od)
 |aP (z:Nat) (x i:Od)
 |idx (x i:Od)
 |sl (z:Nat) (x:Od) (lo hi mx:Option Od)
 |sls (x:Od) (lo hi:Option Od)
 |ld1 (x:Od)
 |ldn (n:Nat) (x:Od)
 |ah (x:Od)
 |lens (x:Od)
 |DC (x:Od)
 |yL (t:Nat) (x:Od)
 |IP (f:Nat) (cs:List Od)
 |FQ (x y:Od)
 |Nk (x y:Od)
 |yM (f:Nat) (fs:List Od)
 |U3 (z n:Nat) (x i:Od)
 |seq (neg:Bool) (ks:List Nat) (x y:Od)
noncomputable def rowOf {X:Type} (h:Hp X) (g:Nat):Option (List AV):=
 match h.get g with
 |some (.rw l)=>some l
 |some (.ro l)=>some l
 |_=>none
theorem fJ {X:Type} {h:Hp X} {g:Nat} {l:List AV} (e:rowOf h g=some l):h.get g=some (.rw l)\/h.get g=some (.ro l):=by
 unfold rowOf at e
 split at e
 ·cases e;left;assumption
 ·cases e;right;assumption
 ·cases e
def nOf (v:AV):Option Nat:=match v with| .int _ (.ofNat n)=>some n|_=>none
theorem jS {v:AV} {n:Nat} (h:nOf v=some n):∃k,v= .int k n:=by
 unfold nOf at h;split at h
 ·cases h;exact ⟨_,rfl⟩
 ·cases h
noncomputable def Ak {X:Type} (h:Hp X) (z g off len:Nat) (cap:Option Nat) (n:Nat):Bool:=
 Nat.ble n len||match cap with
  |some k=>Nat.ble n k
  |none=>match rowOf h g with|some l=>Nat.ble (off+n*z) l.length|none=>false
def getN:List AV->Nat->Option AV
 |[],_=>none
 |v::_,0=>some v
 |_::t,n+1=>getN t n
theorem sF (l:List AV):∀n,getN l n=l[n]?:=by
 induction l with
 |nil=>intro n;cases n<;>rfl
 |cons x l ih=>intro n;cases n with|zero=>rfl|succ n=>simpa [getN] using ih n
def takeN (n off:Nat) (l:List AV):Option (List AV):=bif Nat.ble (off+n) l.length then some ((l.drop off).take n) else none
theorem uw {n off:Nat} {l r:List AV} (h:takeN n off l=some r):off+n<=l.length/\r=(l.drop off).take n:=by
 unfold takeN at h
 cases hb:Nat.ble (off+n) l.length with
 |false=>rw [hb] at h;cases h
 |true=>rw [hb] at h;cases h;exact ⟨Nat.le_of_ble_eq_true hb,rfl⟩
def cellsOf (v:AV):Option (List AV):=match v with| .agg l=>some l| .tup _=>none| .bot=>none|v=>some [v]
def bytesOf:List AV->Option (List UInt8)
 |[]=>some []
 |v::l=>match v with| .int .u8 n=>(match bytesOf l with|some r=>some (UInt8.ofNat n.toNat::r)|none=>none)|_=>none
def fillA (cells:List AV):List (Nat×Nat×AV)->Option (List AV)
 |[]=>some cells
 |(off,size,v)::r=>match cellsOf v with
  |some l=>bif Nat.beq l.length size && Nat.ble (off+size) cells.length then fillA (cells.take off++l++cells.drop (off+size)) r else none
  |none=>none
def slB {X:Type} (z:Nat) (x:AV) (lo hi mx:Option AV) (ub:Nat->Nat->Nat->Option Nat->Nat->Bool):Option AV:=
 match x with
 | .slice z' g off len cap=>
  bif !Nat.beq z' z then none else
  match (match mx with|none=>some none|some v=>match nOf v with|some n=>bif ub g off len cap n then some (some n) else none|none=>none:Option (Option Nat)) with
  |none=>none
  |some m=>
   match (match hi with|none=>(match m with|none=>some len|some _=>none)|some v=>match nOf v with|some n=>bif (match m with|none=>ub g off len cap n|some k=>Nat.ble n k) then some n else none|none=>none:Option Nat) with
   |none=>none
   |some hh=>
    match (match lo with|none=>some 0|some v=>match nOf v with|some n=>bif Nat.ble n hh then some n else none|none=>none:Option Nat) with
    |none=>none
    |some l=>some (.slice z g (off+l*z) (hh - l) (match m with|none=>(match cap with|none=>none|some k=>some (k - l))|some k=>some (k - l)))
 | .ae=>
  bif (match lo with|none=>true|some v=>(match nOf v with|some 0=>true|_=>false)) && (match hi with|none=>(match mx with|none=>true|some _=>false)|some v=>(match nOf v with|some 0=>true|_=>false)) && (match mx with|none=>true|some v=>(match nOf v with|some 0=>true|_=>false)) then some .ae else none
 | .bV=>
  bif (match lo with|none=>true|some v=>(match nOf v with|some 0=>true|_=>false)) && (match hi with|none=>(match mx with|none=>true|some _=>false)|some v=>(match nOf v with|some 0=>true|_=>false)) && (match mx with|none=>true|some v=>(match nOf v with|some 0=>true|_=>false)) then some .bV else none
 |_=>none
def slS (s:List UInt8) (lo hi:Option AV):Option AV:=
 match (match hi with|none=>some s.length|some v=>match nOf v with|some n=>bif Nat.ble n s.length then some n else none|none=>none:Option Nat) with
 |none=>none
 |some hh=>match (match lo with|none=>some 0|some v=>match nOf v with|some n=>bif Nat.ble n hh then some n else none|none=>none:Option Nat) with
  |none=>none
  |some l=>some (.str ((s.take hh).drop l))
def oev (x:Option Od) (e:En) (t:List AV):Option AV:=match x with|none=>none|some o=>some (o.ev e t)
noncomputable def Mv.ev {X:Type} (o:Mv) (e:En) (t:List AV) (h:Hp X):Option AV:=
 match o with
 | .mv x=>some (x.ev e t)
 | .pick c x y=>(c.ev e t).onBool fun b=>some (bif b then x.ev e t else y.ev e t)
 | .bin op q x y=>Am.bin op q (x.ev e t) (y.ev e t)
 | .jd x=>(x.ev e t).onBool fun b=>some (.bool (!b))
 | .neg x=>(x.ev e t).onInt fun k n=>some (.int k (wr k (0 - n)))
 | .conv k x=>(x.ev e t).onInt fun _ n=>some (.int k (wr k n))
 | .b2s x=>match x.ev e t with
  | .ae=>some (.str [])
  | .bV=>some (.str [])
  | .slice _ g off len _=>match rowOf h g with
   |some l=>(match takeN len off l with|some r=>(match bytesOf r with|some s=>some (.str s)|none=>none)|none=>none)
   |none=>none
  |_=>none
 | .i2s x=>(x.ev e t).onInt fun _ n=>some (.str (Utf8.encode n).data.toList)
 | .FP x=>match x.ev e t with| .ptr g o=>some (.ptr g o)| .func f cs=>some (.func f cs)|_=>none
 | .U1 off x=>(x.ev e t).onAgg fun l=>getN l off
 | .U2 off n x=>(x.ev e t).onAgg fun l=>match takeN n off l with|some r=>some (.agg r)|none=>none
 | .ext i x=>(x.ev e t).onTup fun l=>getN l i
 | .bld zero parts=>match fillA zero (parts.map fun p=>(p.1,p.2.1,p.2.2.ev e t)) with|some l=>some (.agg l)|none=>none
 | .aG off x=>(x.ev e t).onPtr fun g o=>some (.ptr g (o+off))
 | .aP z x i=>match x.ev e t with
  | .slice _ g off len _=>(match nOf (i.ev e t) with|some n=>bif Nat.blt n len then some (.ptr g (off+n*z)) else none|none=>none)
  |_=>none
 | .idx x i=>(x.ev e t).onStr fun s=>match nOf (i.ev e t) with|some n=>(match s[n]? with|some b=>some (.int .u8 b.toNat)|none=>none)|none=>none
 | .sl z x lo hi mx=>slB z (x.ev e t) (oev lo e t) (oev hi e t) (oev mx e t) (Ak h z) (X:=X)
 | .sls x lo hi=>(x.ev e t).onStr fun s=>slS s (oev lo e t) (oev hi e t)
 | .ld1 x=>(x.ev e t).onPtr fun g o=>match rowOf h g with|some l=>getN l o|none=>none
 | .ldn n x=>(x.ev e t).onPtr fun g o=>match rowOf h g with|some l=>(match takeN n o l with|some r=>some (.agg r)|none=>none)|none=>none
 | .ah x=>match x.ev e t with| .slice _ _ _ len _=>some (.int .i64 len)| .ae=>some (.int .i64 0)| .bV=>some (.int .i64 0)|_=>none
 | .lens x=>(x.ev e t).onStr fun s=>some (.int .i64 s.length)
 | .DC x=>match x.ev e t with| .slice _ _ _ _ (some k)=>some (.int .i64 k)| .ae=>some (.int .i64 0)|_=>none
 | .yL ty x=>some (.iface ty (x.ev e t))
 | .IP f cs=>some (.func f (cs.map fun c=>c.ev e t))
 | .FQ x y=>(x.ev e t).onInt fun k a=>(y.ev e t).onInt fun _ b=>some (.int k (bif decide (b > a) then b else a))
 | .Nk x y=>(x.ev e t).onInt fun k a=>(y.ev e t).onInt fun _ b=>some (.int k (bif decide (b < a) then b else a))
 | .yM f fs=>some (.meth f (fs.map fun c=>c.ev e t))
 | .U3 z n x i=>(x.ev e t).onPtr fun g o=>match nOf (i.ev e t) with|some k=>bif Nat.blt k n then some (.ptr g (o+k*z)) else none|none=>none
 | .seq ng ks x y=>(x.ev e t).onAgg fun l=>(y.ev e t).onAgg fun r=>match eqFs ks l r with|some b=>some (.bool (b !=ng))|none=>none
variable {P:Program}
def fV (P:Program) (keep:List Nat) (o:Oper) (mv:Mv):Prop:=
 ∀{O:dH} {w0 w:World} {m:Mu} {φ:Ph} {h:Hp O.X} {nt:Nat} {e:En} {t:List AV} {a:Act},SR O w0 w m φ h->FR m keep nt e t a->∀{v:AV},mv.ev e t h=some v->
  ∃v',VR m v v'/\(execOp a.eval o).run P w= .ok (.value v') w
section
variable {keep:List Nat} {o:Oper}
theorem XJ {x:Operand} {a:Od} (ho:o.op= .move x\/o.op= .assign x) (hx:odOf keep x=some a):fV P keep o (.mv a):=by
 intro O w0 w m φ h nt e t ac hs hf v hv
 cases hv
 exact ⟨_,hf.od hx,by rcases ho with ho|ho<;>simp [execOp,ho]⟩
theorem U4 {c x y:Operand} {c' x' y':Od} (ho:o.op= .pick c x y) (hc:odOf keep c=some c') (hx:odOf keep x=some x') (hy:odOf keep y=some y'):fV P keep o (.pick c' x' y'):=by
 intro O w0 w m φ h nt e t ac hs hf v hv
 obtain ⟨b,hb,hv⟩:=AV.qK hv
 have h1:=hf.od hc
 rw [hb] at h1
 simp only [VR] at h1
 cases b with
 |true=>cases hv;exact ⟨_,hf.od hx,by simp [execOp,ho,h1,asBool]⟩
 |false=>cases hv;exact ⟨_,hf.od hy,by simp [execOp,ho,h1,asBool]⟩
theorem IQ {op:BinOp} {t:TypeId} {x y:Operand} {a b:Value} {w:World} (h1:a≠ .nilIface) (h2:∀l,a≠ .agg l):(eqGuard op t x y a b).run P w= .ok () w:=by
 have:eqGuard op t x y a b=pure ():=by
  unfold eqGuard
  cases a<;>first|exact absurd rfl h1|exact absurd rfl (h2 _)|(cases op<;>rfl)
 rw [this];rfl
theorem Yr {op:BinOp} {ty yt:TypeId} {x y:Operand} {q:Eq} {x' y':Od} (ho:o.op= .binOp op ty x y yt) (hq:eqOf P ty=q) (hx:odOf keep x=some x') (hy:odOf keep y=some y'):fV P keep o (.bin op q x' y'):=by
 intro O w0 w m φ h nt e t ac hs hf v hv
 have h1:=hf.od hx
 have h2:=hf.od hy
 obtain ⟨v',h3,h4⟩:=Yq (w:=w) hq h1 h2 hv
 refine ⟨v',h3, ?_⟩
 have hg:(eqGuard op ty x y (ac.eval x) (ac.eval y)).run P w= .ok () w:=by
  have hv':Am.bin op q (x'.ev e t) (y'.ev e t)=some v:=hv
  generalize x'.ev e t=xa at*
  refine IQ (fun hn=> ?_) (fun l hn=> ?_)
  ·rw [hn] at h1
   cases xa<;>first|(simp [VR] at h1;done)|(simp [Am.bin] at hv';done)|(simp [VR] at h1)
  ·rw [hn] at h1
   cases xa<;>first|(simp [VR] at h1;done)|(simp [Am.bin] at hv';done)|(simp [VR] at h1)
 simp [execOp,ho,hg,h4]
theorem Yt {ty:TypeId} {x:Operand} {x':Od} (ho:o.op= .unOp .not ty x) (hx:odOf keep x=some x'):fV P keep o (.jd x'):=by
 intro O w0 w m φ h nt e t ac hs hf v hv
 obtain ⟨b,hb,hv⟩:=AV.qK hv
 have h1:=hf.od hx
 rw [hb] at h1
 simp only [VR] at h1
 cases hv
 exact ⟨_,rfl,by simp [execOp,ho,h1,Op.unary]⟩
theorem Yu {ty:TypeId} {x:Operand} {x':Od} (ho:o.op= .unOp .neg ty x) (hx:odOf keep x=some x'):fV P keep o (.neg x'):=by
 intro O w0 w m φ h nt e t ac hs hf v hv
 obtain ⟨k,n,hb,hv⟩:=AV.gG hv
 have h1:=hf.od hx
 rw [hb] at h1
 simp only [VR] at h1
 cases hv
 refine ⟨.int k (wr k (0 - n)),rfl, ?_⟩
 simp [execOp,ho,h1,Op.unary,Op.intArith,wr]
theorem U5 {s d:TypeId} {x:Operand} {x':Od} {k:IntKind} {u:TypeDesc} (ho:o.op= .convert s d x) (hs':P.underlying s=some u) (hd:P.underlying d=some (.int k)) (hx:odOf keep x=some x'):fV P keep o (.conv k x'):=by
 intro O w0 w m φ h nt e t ac hs hf v hv
 obtain ⟨k0,n,hb,hv⟩:=AV.gG hv
 have h1:=hf.od hx
 rw [hb] at h1
 simp only [VR] at h1
 cases hv
 refine ⟨_,rfl, ?_⟩
 have:(convert s d (.int k0 n)).run P w= .ok (.int k (wr k n)) w:=by
  unfold convert
  simp only [Sem.run_bind,run_underlying hs',run_underlying hd,Result.andThen_ok]
  cases u<;>rfl
 simp [execOp,ho,h1,this]
theorem Yv {s d:TypeId} {x:Operand} {x':Od} {k:IntKind} (ho:o.op= .convert s d x) (hs':P.underlying s=some (.int k)) (hd:P.underlying d=some .string) (hx:odOf keep x=some x'):fV P keep o (.i2s x'):=by
 intro O w0 w m φ h nt e t ac hs hf v hv
 obtain ⟨k0,n,hb,hv⟩:=AV.gG hv
 have h1:=hf.od hx
 rw [hb] at h1
 simp only [VR] at h1
 cases hv
 refine ⟨_,rfl, ?_⟩
 have:(convert s d (.int k0 n)).run P w= .ok (.string (Utf8.encode n)) w:=by
  unfold convert
  simp only [Sem.run_bind,run_underlying hs',run_underlying hd,Result.andThen_ok]
  rfl
 simp [execOp,ho,h1,this]
theorem Yw {s d:TypeId} {x:Operand} {x':Od} (ho:o.op= .convert s d x) (hs':P.underlying s=some .string) (hd:P.underlying d=some .string) (hx:odOf keep x=some x'):fV P keep o (.sls x' none none):=by
 intro O w0 w m φ h nt e t ac hs hf v hv
 obtain ⟨l,hb,hv⟩:=AV.lL hv
 have h1:=hf.od hx
 rw [hb] at h1
 simp only [VR] at h1
 have e1:v= .str l:=by
  simp only [oev,slS] at hv
  cases hv
  simp
 subst e1
 refine ⟨_,rfl, ?_⟩
 have:(convert s d (.string ⟨l.toArray⟩)).run P w= .ok (.string ⟨l.toArray⟩) w:=by
  unfold convert
  simp only [Sem.run_bind,run_underlying hs',run_underlying hd,Result.andThen_ok]
  rfl
 simp [execOp,ho,h1,this]
theorem pR {m:Mu}:∀{l:List AV} {s:List UInt8},bytesOf l=some s->∀{vs:List Value},VRs m l vs->∃ns:List Int,vs=ns.map (Value.int .u8)/\s=ns.map (fun n=>UInt8.ofNat n.toNat)
 |[],s,h,vs,hv=>by cases h;simp only [VRs] at hv;subst hv;exact ⟨[],rfl,rfl⟩
 |x::l,s,h,vs,hv=>by
  simp only [VRs] at hv
  obtain ⟨v,vs',rfl,h1,h2⟩:=hv
  simp only [bytesOf] at h
  split at h
  ·rename_i n
   cases hb:bytesOf l with
   |none=>rw [hb] at h;cases h
   |some r=>
    rw [hb] at h
    cases h
    obtain ⟨ns,rfl,rfl⟩:=pR hb h2
    simp only [VR] at h1
    subst h1
    exact ⟨n::ns,rfl,rfl⟩
  ·cases h
theorem FT (ns:List Int):∀s:ByteArray,ns.foldl (fun (r:ByteArray) n=>r.push (UInt8.ofNat n.toNat)) s=⟨s.data++(ns.map fun n=>UInt8.ofNat n.toNat).toArray⟩:=by
 induction ns with
 |nil=>intro s;simp
 |cons x b ih=>intro s;rw [List.foldl_cons,ih];simp [ByteArray.push]
theorem qM {m:Mu} {l:List AV} {f:Nat->Option Value} (hr:Dz m l f) {n off:Nat} {r:List AV} (h:takeN n off l=some r):
  ∃vs:List Value,VRs m r vs/\vs.length=n/\(∀(j:Nat) v,vs[j]?=some v->f (off+j)=some v)/\∀a∈r,a.one=true:=by
 obtain ⟨hl,rfl⟩:=uw h
 have hlen:((l.drop off).take n).length=n:=by rw [List.length_take,List.length_drop];omega
 have hget:∀j,j < n->∃v,l[off+j]?=some v/\((l.drop off).take n)[j]?=some v:=fun j hj=>by
  have:off+j < l.length:=by omega
  exact ⟨l[off+j],List.getElem?_eq_getElem this,by rw [List.getElem?_take,if_pos hj,List.getElem?_drop,List.getElem?_eq_getElem this]⟩
 refine ⟨(List.range n).map fun j=>(f (off+j)).getD undef,VRs.mk (by simp [hlen]) (fun i a v ha hv=> ?_),by simp,fun j v hj=> ?_,fun a ha=> ?_⟩
 ·have hi:i < n:=by have:=(List.getElem?_eq_some_iff.1 ha).1;omega
  obtain ⟨a',h1,h2⟩:=hget i hi
  rw [h2] at ha;cases ha
  obtain ⟨v',h3,h4,_⟩:=hr _ _ h1
  rw [List.getElem?_map,List.getElem?_range hi] at hv
  simp only [Option.map_some,h3,Option.getD_some,Option.some.injEq] at hv
  subst hv
  exact h4
 ·have hi:j < n:=by have:=(List.getElem?_eq_some_iff.1 hj).1;simpa using this
  obtain ⟨a',h1,_⟩:=hget j hi
  obtain ⟨v',h3,_,_⟩:=hr _ _ h1
  rw [List.getElem?_map,List.getElem?_range hi] at hj
  simp only [Option.map_some,h3,Option.getD_some,Option.some.injEq] at hj
  rw [h3,hj]
 ·obtain ⟨i,hi,rfl⟩:=List.mem_iff_getElem.1 ha
  obtain ⟨a',h1,h2⟩:=hget i (by omega)
  rw [List.getElem?_eq_getElem hi] at h2
  cases h2
  obtain ⟨_,_,_,h5⟩:=hr _ _ h1
  exact h5
theorem je (b off j:Nat):(⟨b,off,none⟩:Addr).add j=⟨b,off+j,none⟩:=Addr.add_lit b off j
theorem Yx {s d el:TypeId} {x:Operand} {x':Od} (ho:o.op= .convert s d x) (hs':P.underlying s=some (.slice el)) (he:P.underlying el=some (.int .u8)) (hd:P.underlying d=some .string) (hx:odOf keep x=some x'):fV P keep o (.b2s x'):=by
 intro O w0 w m φ h nt e t ac hs hf v hv
 have h1:=hf.od hx
 simp only [Mv.ev] at hv
 have fin:∀y r,ac.eval x=y->(convert s d y).run P w= .ok r w->(execOp ac.eval o).run P w= .ok (.value r) w:=fun y r h1 h2=>by simp [execOp,ho,h1,h2]
 generalize x'.ev e t=xa at*
 cases xa<;>simp only [] at hv<;>first|(cases hv;done)|skip
 ·rename_i z0 g off len cap
  cases hr:rowOf h g with
  |none=>rw [hr] at hv;cases hv
  |some l=>
   rw [hr] at hv
   simp only at hv
   cases ht:takeN len off l with
   |none=>rw [ht] at hv;cases hv
   |some r=>
    rw [ht] at hv
    simp only at hv
    cases hb:bytesOf r with
    |none=>rw [hb] at hv;cases hv
    |some bs=>
     rw [hb] at hv
     cases hv
     simp only [VR] at h1
     obtain ⟨p,ad,c,hp,hval,hlc,hcm,had,hz,_⟩:=h1
     obtain ⟨hrow,_⟩:=hs.row hp (fJ hr)
     obtain ⟨vs,k1,k2,k3,_⟩:=qM hrow ht
     obtain ⟨ns,rfl,rfl⟩:=pR hb k1
     refine ⟨_,rfl,fin _ _ hval ?_⟩
     rw [run_convert_bytes_string w s d el (some ad) len c hs' he hd]
     have hload:(loadCells ad len).run P w= .ok (ns.map (Value.int .u8)).toArray w:=by
      by_cases hc:c=0
      ·have:len=0:=by omega
       subst this
       have:ns=[]:=List.eq_nil_of_length_eq_zero (by simpa using k2)
       subst this
       rfl
      ·have:=run_loadCells_list (P:=P) w ad (ns.map (Value.int .u8)) (fun j u hj=>by rw [had hc,je,Nat.add_assoc];exact k3 j u hj)
       rw [k2] at this
       exact this
     rw [run_bytesToString w ad len c _ hload,FT]
     simp
 ·cases hv
  simp only [VR] at h1
  refine ⟨_,rfl,fin _ _ h1 ?_⟩
  rw [run_convert_bytes_string w s d el none 0 0 hs' he hd]
  rfl
 ·cases hv
  simp only [VR] at h1
  obtain ⟨a,c,h1,hcm,hn⟩:=h1
  refine ⟨_,rfl,fin _ _ h1 ?_⟩
  cases a with
  |none=>
   have:=hn rfl
   subst this
   rw [run_convert_bytes_string w s d el none 0 0 hs' he hd]
   rfl
  |some ad=>
   rw [run_convert_bytes_string w s d el (some ad) 0 c hs' he hd,run_bytesToString w ad 0 c [] rfl]
   rfl
end
variable {P:Program}
section
variable {keep:List Nat} {o:Oper}
theorem U6 {x:Operand} {x':Od} (ho:o.op= .nilCheck x) (hx:odOf keep x=some x'):fV P keep o (.FP x'):=by
 intro O w0 w m φ h nt e t ac hs hf v hv
 have h1:=hf.od hx
 simp only [Mv.ev] at hv
 generalize x'.ev e t=xa at*
 cases xa<;>simp only [] at hv<;>first|(cases hv;done)|skip
 ·cases hv
  refine ⟨_,h1, ?_⟩
  obtain ⟨p,_,h1⟩:=h1
  simp [execOp,ho,h1]
 ·cases hv
  refine ⟨_,h1, ?_⟩
  obtain ⟨p,h1,_⟩:=h1
  simp [execOp,ho,h1]
theorem VR.DI {m:Mu} {l:List AV} {v:Value} (h:VR m (.agg l) v):∃vs,v= .agg vs.toArray/\VRs m l vs:=by simpa [VR] using h
theorem VR.U7 {m:Mu} {l:List AV} {v:Value} (h:VR m (.tup l) v):∃vs,v= .tuple vs.toArray/\VRs m l vs:=by simpa [VR] using h
theorem U8 {ty:TypeId} {x:Operand} {x':Od} {f:Nat} {fs:Array Field} {fd:Field} {u:TypeDesc} (ho:o.op= .field ty x f) (hu:P.underlying ty=some (.struct fs)) (hf':fs[f]?=some fd)
  (hty:P.underlying fd.type=some u) (hna:(∀x,u≠ .struct x)/\∀n e,u≠ .array n e) (hx:odOf keep x=some x'):fV P keep o (.U1 fd.offset x'):=by
 intro O w0 w m φ h nt e t ac hs hf v hv
 obtain ⟨l,hb,hv⟩:=AV.pO hv
 have h1:=hf.od hx
 rw [hb] at h1
 obtain ⟨vs,h1,h2⟩:=VR.DI h1
 rw [sF] at hv
 obtain ⟨v',h3,h4⟩:=h2.get hv
 refine ⟨v',h4, ?_⟩
 have hagg:(isAgg fd.type).run P w= .ok false w:=by
  unfold isAgg
  simp only [Sem.run_bind,run_underlying hty,Result.andThen_ok]
  cases u<;>first|rfl|exact absurd rfl (hna.1 _)|exact absurd rfl (hna.2 _ _)
 simp [execOp,ho,h1,Instr.field,run_underlying hu,hf',asAgg,part,hagg,h3]
theorem U9 {ty:TypeId} {x:Operand} {x':Od} {f:Nat} {fs:Array Field} {fd:Field} {i:TypeInfo} (ho:o.op= .field ty x f) (hu:P.underlying ty=some (.struct fs)) (hf':fs[f]?=some fd)
  (hty:(∃x,P.underlying fd.type=some (.struct x))\/∃n e,P.underlying fd.type=some (.array n e)) (hi:P.info? fd.type=some i) (hx:odOf keep x=some x'):fV P keep o (.U2 fd.offset i.size x'):=by
 intro O w0 w m φ h nt e t ac hs hf v hv
 obtain ⟨l,hb,hv⟩:=AV.pO hv
 have h1:=hf.od hx
 rw [hb] at h1
 obtain ⟨vs,h1,h2⟩:=VR.DI h1
 cases ht:takeN i.size fd.offset l with
 |none=>rw [ht] at hv;cases hv
 |some r=>
  rw [ht] at hv
  cases hv
  obtain ⟨hl,rfl⟩:=uw ht
  refine ⟨.agg ((vs.drop fd.offset).take i.size).toArray, ?_, ?_⟩
  ·simp only [VR]
   exact ⟨_,rfl,(h2.drop _).take _⟩
  ·have hagg:(isAgg fd.type).run P w= .ok true w:=by
    unfold isAgg
    rcases hty with ⟨_,hty⟩|⟨_,_,hty⟩<;>simp [run_underlying hty]
   simp [execOp,ho,h1,Instr.field,run_underlying hu,hf',asAgg,part,hagg,sizeOf,typeInfo,hi,List.extract_eq_take_drop]
theorem Yy {x:Operand} {x':Od} {i:Nat} (ho:o.op= .extract x i) (hx:odOf keep x=some x'):fV P keep o (.ext i x'):=by
 intro O w0 w m φ h nt e t ac hs hf v hv
 obtain ⟨l,hb,hv⟩:=AV.IL hv
 have h1:=hf.od hx
 rw [hb] at h1
 obtain ⟨vs,h1,h2⟩:=VR.U7 h1
 rw [sF] at hv
 obtain ⟨v',h3,h4⟩:=h2.get hv
 exact ⟨v',h4,by simp [execOp,ho,h1,Instr.extract,h3]⟩
theorem yN {w:World} {b off:Nat} {fd:Field} {i:TypeInfo} (hi:P.info? fd.type=some i) (hz:i.size≠0):(fieldPlace ⟨b,off,none⟩ fd).run P w= .ok ⟨b,off+fd.offset,none⟩ w:=by
 unfold fieldPlace
 simp [sizeOf,typeInfo,hi,hz,je]
theorem PL {ty:TypeId} {x:Operand} {x':Od} {f:Nat} {fs:Array Field} {fd:Field} {i:TypeInfo} (ho:o.op= .fieldAddr ty x f) (hu:P.underlying ty=some (.struct fs)) (hf':fs[f]?=some fd)
  (hi:P.info? fd.type=some i) (hz:i.size≠0) (hx:odOf keep x=some x'):fV P keep o (.aG fd.offset x'):=by
 intro O w0 w m φ h nt e t ac hs hf v hv
 obtain ⟨g,off,hb,hv⟩:=AV.jC hv
 have h1:=hf.od hx
 rw [hb] at h1
 simp only [VR] at h1
 obtain ⟨p,hp,h1⟩:=h1
 cases hv
 refine ⟨.pointer (some ⟨p.b,p.s+(off+fd.offset),none⟩),⟨p,hp,rfl⟩, ?_⟩
 simp [execOp,ho,h1,Instr.fieldAt,run_underlying hu,hf',Instr.sureAddr,yN hi hz,Nat.add_assoc]
theorem PM {ty el:TypeId} {x ix:Operand} {x' i':Od} {i:TypeInfo} (ho:o.op= .indexAddr ty x ix) (hu:P.underlying ty=some (.slice el)) (hi:P.info? el=some i) (hx:odOf keep x=some x') (hix:odOf keep ix=some i'):fV P keep o (.aP i.size x' i'):=by
 intro O w0 w m φ h nt e t ac hs hf v hv
 have h1:=hf.od hx
 have h2:=hf.od hix
 simp only [Mv.ev] at hv
 have fin:∀y z r,ac.eval x=y->ac.eval ix=z->(Instr.indexAt ty y z).run P w= .ok r w->(execOp ac.eval o).run P w= .ok (.value r) w:=fun y z r h1 h2 h3=>by simp [execOp,ho,h1,h2,h3]
 generalize x'.ev e t=xa at*
 generalize i'.ev e t=ia at*
 cases xa<;>simp only [] at hv<;>first|(cases hv;done)|skip
 rename_i z0 g off len cap
 cases hn:nOf ia with
 |none=>rw [hn] at hv;cases hv
 |some n=>
  rw [hn] at hv
  simp only at hv
  obtain ⟨k,rfl⟩:=jS hn
  cases hlt:Nat.blt n len with
  |false=>rw [hlt] at hv;cases hv
  |true=>
   rw [hlt] at hv
   cases hv
   have hlt:n < len:=by simpa [Nat.blt_eq] using hlt
   simp only [VR] at h1 h2
   obtain ⟨p,ad,c,hp,hval,hlc,_,had,hz,_⟩:=h1
   refine ⟨.pointer (some ⟨p.b,p.s+(off+n*i.size),none⟩),⟨p,hp,rfl⟩,fin _ _ _ hval h2 ?_⟩
   rw [had (by omega)]
   have hb:(0:Int)<=(n:Int)/\(n:Int) < (len:Int):=by omega
   simp [Instr.indexAt,asIntOf,run_underlying hu,sizeOf,typeInfo,hi,hb,je,Nat.add_assoc]
   intro hh
   omega
theorem Yz {ty:TypeId} {x ix:Operand} {x' i':Od} (ho:o.op= .index ty x ix) (hu:P.underlying ty=some .string) (hx:odOf keep x=some x') (hix:odOf keep ix=some i'):fV P keep o (.idx x' i'):=by
 intro O w0 w m φ h nt e t ac hs hf v hv
 have h1:=hf.od hx
 have h2:=hf.od hix
 obtain ⟨s,hb,hv⟩:=AV.lL hv
 rw [hb] at h1
 simp only [VR] at h1
 cases hn:nOf (i'.ev e t) with
 |none=>rw [hn] at hv;cases hv
 |some n=>
  rw [hn] at hv
  simp only at hv
  obtain ⟨k,hk⟩:=jS hn
  rw [hk] at h2
  simp only [VR] at h2
  cases hsn:s[n]? with
  |none=>rw [hsn] at hv;cases hv
  |some b=>
   rw [hsn] at hv
   cases hv
   refine ⟨_,rfl, ?_⟩
   have hg:(⟨s.toArray⟩:ByteArray)[n]?=some b:=by
    obtain ⟨h1,h2⟩:=List.getElem?_eq_some_iff.1 hsn
    have hsz:n < (⟨s.toArray⟩:ByteArray).size:=by simpa [ByteArray.size] using h1
    rw [getElem?_pos (⟨s.toArray⟩:ByteArray) n hsz]
    congr 1
   have hr:(Instr.index ty (.string ⟨s.toArray⟩) (.int k n)).run P w= .ok (.int .u8 b.toNat) w:=by
    have h0:(0:Int)<=(n:Int):=Int.natCast_nonneg n
    unfold Instr.index
    simp [asIntOf,run_underlying hu,h0,hg]
   simp [execOp,ho,h1,h2,hr]
theorem ug {w:World} {a:Addr} {v:Value} (h:w.cell? a=some v):(load a).run P w= .ok v w:=by simp [h]
theorem YA {ty:TypeId} {x:Operand} {x':Od} {u:TypeDesc} (ho:o.op= .load ty x) (hu:P.underlying ty=some u) (hna:(∀x,u≠ .struct x)/\∀n e,u≠ .array n e) (hx:odOf keep x=some x'):fV P keep o (.ld1 x'):=by
 intro O w0 w m φ h nt e t ac hs hf v hv
 obtain ⟨g,off,hb,hv⟩:=AV.jC hv
 have h1:=hf.od hx
 rw [hb] at h1
 simp only [VR] at h1
 obtain ⟨p,hp,h1⟩:=h1
 cases hr:rowOf h g with
 |none=>rw [hr] at hv;cases hv
 |some l=>
  rw [hr] at hv
  simp only [sF] at hv
  obtain ⟨hrow,_⟩:=hs.row hp (fJ hr)
  obtain ⟨v',h3,h4,_⟩:=hrow _ _ hv
  refine ⟨v',h4, ?_⟩
  have hagg:(isAgg ty).run P w= .ok false w:=by
   unfold isAgg
   simp only [Sem.run_bind,run_underlying hu,Result.andThen_ok]
   cases u<;>first|rfl|exact absurd rfl (hna.1 _)|exact absurd rfl (hna.2 _ _)
  have h3':(load ⟨p.b,p.s+off,none⟩).run P w= .ok v' w:=ug h3
  have hl:(Instr.loadAt ty (.pointer (some ⟨p.b,p.s+off,none⟩))).run P w= .ok v' w:=by
   unfold Instr.loadAt Instr.sureAddr loadVar
   simp only [Sem.run_bind,Sem.run_pure,Result.andThen_ok,hagg,Bool.false_eq_true,if_false]
   exact h3'
  simp [execOp,ho,h1,hl]
theorem YB {ty:TypeId} {x:Operand} {x':Od} {i:TypeInfo} (ho:o.op= .load ty x) (hty:(∃x,P.underlying ty=some (.struct x))\/∃n e,P.underlying ty=some (.array n e)) (hi:P.info? ty=some i) (hx:odOf keep x=some x'):fV P keep o (.ldn i.size x'):=by
 intro O w0 w m φ h nt e t ac hs hf v hv
 obtain ⟨g,off,hb,hv⟩:=AV.jC hv
 have h1:=hf.od hx
 rw [hb] at h1
 simp only [VR] at h1
 obtain ⟨p,hp,h1⟩:=h1
 cases hr:rowOf h g with
 |none=>rw [hr] at hv;cases hv
 |some l=>
  rw [hr] at hv
  simp only at hv
  cases ht:takeN i.size off l with
  |none=>rw [ht] at hv;cases hv
  |some r=>
   rw [ht] at hv
   cases hv
   obtain ⟨hrow,_⟩:=hs.row hp (fJ hr)
   obtain ⟨vs,k1,k2,k3,_⟩:=qM hrow ht
   refine ⟨.agg vs.toArray,⟨vs,rfl,k1⟩, ?_⟩
   have hagg:(isAgg ty).run P w= .ok true w:=by
    unfold isAgg
    rcases hty with ⟨_,hty⟩|⟨_,_,hty⟩<;>simp [run_underlying hty]
   have hload:=run_loadCells_list (P:=P) w ⟨p.b,p.s+off,none⟩ vs (fun j u hj=>by rw [je,Nat.add_assoc];exact k3 j u hj)
   rw [k2] at hload
   have hl:(Instr.loadAt ty (.pointer (some ⟨p.b,p.s+off,none⟩))).run P w= .ok (.agg vs.toArray) w:=by
    unfold Instr.loadAt Instr.sureAddr loadVar
    simp only [Sem.run_bind,Sem.run_pure,Result.andThen_ok,hagg,if_true]
    simp [sizeOf,typeInfo,hi,hload]
   simp [execOp,ho,h1,hl]
theorem nJ {bf:Builtin} {ty:TypeId} {x:Operand} {ρ:Operand->Value} {w w':World} {y r:Value} {S:Sem Value} (ho:o.op= .call {callee:= .builtin bf,args:= #[x],argTypes:= #[ty]}) (h1:ρ x=y)
  (hb:∀c,builtin bf #[ty] o.type c #[y]=(do pure (.value (<-S)))) (h2:S.run P w= .ok r w'):(execOp ρ o).run P w= .ok (.value r) w':=by
 simp only [execOp,ho,resolve,invoke,List.map_toArray,List.map_cons,List.map_nil,h1,Sem.run_bind,Sem.run_pure,Result.andThen_ok,hb,h2]
theorem YC {ty:TypeId} {x:Operand} {x':Od} {el:TypeId} (ho:o.op= .call {callee:= .builtin .len,args:= #[x],argTypes:= #[ty]}) (hu:P.underlying ty=some (.slice el)) (hx:odOf keep x=some x'):fV P keep o (.ah x'):=by
 intro O w0 w m φ h nt e t ac hs hf v hv
 have h1:=hf.od hx
 simp only [Mv.ev] at hv
 generalize x'.ev e t=xa at*
 cases xa<;>simp only [] at hv<;>first|(cases hv;done)|skip
 ·cases hv
  simp only [VR] at h1
  obtain ⟨p,ad,c,hp,hval,_⟩:=h1
  exact ⟨_,rfl,nJ ho hval (fun _=>rfl) (by simp [Builtin.len_,run_underlying hu,goInt])⟩
 ·cases hv
  simp only [VR] at h1
  exact ⟨_,rfl,nJ ho h1 (fun _=>rfl) (by simp [Builtin.len_,run_underlying hu,goInt])⟩
 ·cases hv
  simp only [VR] at h1
  obtain ⟨a,c,h1,_⟩:=h1
  exact ⟨_,rfl,nJ ho h1 (fun _=>rfl) (by simp [Builtin.len_,run_underlying hu,goInt])⟩
theorem Va {ty:TypeId} {x:Operand} {x':Od} (ho:o.op= .call {callee:= .builtin .len,args:= #[x],argTypes:= #[ty]}) (hu:P.underlying ty=some .string) (hx:odOf keep x=some x'):fV P keep o (.lens x'):=by
 intro O w0 w m φ h nt e t ac hs hf v hv
 have h1:=hf.od hx
 obtain ⟨s,hb,hv⟩:=AV.lL hv
 rw [hb] at h1
 simp only [VR] at h1
 cases hv
 refine ⟨_,rfl,nJ ho h1 (fun _=>rfl) ?_⟩
 have:(⟨s.toArray⟩:ByteArray).size=s.length:=by show s.toArray.size=_;simp
 simp [Builtin.len_,run_underlying hu,goInt,this]
theorem YD {ty el:TypeId} {x:Operand} {x':Od} (ho:o.op= .call {callee:= .builtin .cap,args:= #[x],argTypes:= #[ty]}) (hu:P.underlying ty=some (.slice el)) (hx:odOf keep x=some x'):fV P keep o (.DC x'):=by
 intro O w0 w m φ h nt e t ac hs hf v hv
 have h1:=hf.od hx
 simp only [Mv.ev] at hv
 generalize x'.ev e t=xa at*
 cases xa<;>first|(cases hv;done)|skip
 ·rename_i z0 g off len cap
  cases cap with
  |none=>cases hv
  |some k=>
   cases hv
   simp only [VR] at h1
   obtain ⟨p,ad,c,hp,hval,_,_,_,_,hc⟩:=h1
   try simp only at hc
   subst hc
   exact ⟨_,rfl,nJ ho hval (fun _=>rfl) (by simp [Builtin.cap_,run_underlying hu,goInt])⟩
 ·cases hv
  simp only [VR] at h1
  exact ⟨_,rfl,nJ ho h1 (fun _=>rfl) (by simp [Builtin.cap_,run_underlying hu,goInt])⟩
theorem Vb {ty:TypeId} {x:Operand} {x':Od} {u:TypeDesc} (ho:o.op= .makeInterface ty x) (hu:P.underlying ty=some u) (hn:∀ms,u≠ .interface ms) (hx:odOf keep x=some x'):fV P keep o (.yL ty x'):=by
 intro O w0 w m φ h nt e t ac hs hf v hv
 have h1:=hf.od hx
 cases hv
 refine ⟨.iface ty (ac.eval x),⟨_,rfl,h1⟩, ?_⟩
 have:(Instr.makeInterface ty (ac.eval x)).run P w= .ok (.iface ty (ac.eval x)) w:=by
  unfold Instr.makeInterface
  simp only [Sem.run_bind,run_underlying hu,Result.andThen_ok]
  cases u<;>first|rfl|exact absurd rfl (hn _)
 simp [execOp,ho,this]
theorem wO {m:Mu} {nt:Nat} {e:En} {t:List AV} {a:Act} (f:FR m keep nt e t a):∀{xs:List Operand} {os:List Od},xs.mapM (odOf keep)=some os->VRs m (os.map fun c=>c.ev e t) (xs.map a.eval)
 |[],os,h=>by cases h;simp [VRs]
 |x::xs,os,h=>by
  rw [List.mapM_cons] at h
  cases h1:odOf keep x with
  |none=>rw [h1] at h;cases h
  |some b=>
   rw [h1] at h
   cases h2:xs.mapM (odOf keep) with
   |none=>rw [h2] at h;cases h
   |some bs=>
    rw [h2] at h
    cases h
    simp only [List.map_cons,VRs]
    exact ⟨_,_,rfl,f.od h1,wO f h2⟩
theorem Vd {f:FuncId} {cs:Array Operand} {cs':List Od} (ho:o.op= .makeFunc (.func f) #[] cs) (hc:cs.toList.mapM (odOf keep)=some cs'):fV P keep o (.IP f cs'):=by
 intro O w0 w m φ h nt e t ac hs hf v hv
 cases hv
 refine ⟨.func (.func f) #[] (cs.map ac.eval), ?_,by simp [execOp,ho,Instr.makeFunc]⟩
 simp only [VR]
 exact ⟨(cs.toList.map ac.eval),by rw [<-List.map_toArray],wO hf hc⟩
theorem Ve {f:FuncId} {fs:Array Operand} {fs':List Od} (ho:o.op= .makeFunc (.func f) fs #[]) (hc:fs.toList.mapM (odOf keep)=some fs'):fV P keep o (.yM f fs'):=by
 intro O w0 w m φ h nt e t ac hs hf v hv
 cases hv
 refine ⟨.func (.func f) (fs.map ac.eval) #[], ?_,by simp [execOp,ho,Instr.makeFunc]⟩
 simp only [VR]
 exact ⟨(fs.toList.map ac.eval),by rw [<-List.map_toArray],wO hf hc⟩
theorem Vf {ty el:TypeId} {n:Nat} {x ix:Operand} {x' i':Od} {i:TypeInfo} (ho:o.op= .indexAddr ty x ix) (hu:P.underlying ty=some (.array n el)) (hi:P.info? el=some i) (hx:odOf keep x=some x') (hix:odOf keep ix=some i'):fV P keep o (.U3 i.size n x' i'):=by
 intro O w0 w m φ h nt e t ac hs hf v hv
 obtain ⟨g,off,hb,hv⟩:=AV.jC hv
 have h1:=hf.od hx
 have h2:=hf.od hix
 rw [hb] at h1
 simp only [VR] at h1
 obtain ⟨p,hp,h1⟩:=h1
 generalize i'.ev e t=ia at*
 cases hn:nOf ia with
 |none=>rw [hn] at hv;cases hv
 |some k=>
  rw [hn] at hv
  simp only at hv
  obtain ⟨kk,rfl⟩:=jS hn
  cases hlt:Nat.blt k n with
  |false=>rw [hlt] at hv;cases hv
  |true=>
   rw [hlt] at hv
   cases hv
   have hlt:k < n:=by simpa [Nat.blt_eq] using hlt
   simp only [VR] at h2
   refine ⟨.pointer (some ⟨p.b,p.s+(off+k*i.size),none⟩),⟨p,hp,rfl⟩, ?_⟩
   have hb:(0:Int)<=(k:Int)/\(k:Int) < (n:Int):=by omega
   simp [execOp,ho,h1,h2,Instr.indexAt,asIntOf,run_underlying hu,sizeOf,typeInfo,hi,hb,Instr.sureAddr,je,Nat.add_assoc]
   intro hh
   omega
def scOf (P:Program) (t:TypeId):Option Nat:=match P.underlying t with|some (.int _)=>some 0|some .bool=>some 1|some .string=>some 2|_=>none
def fsT (P:Program) (g:TypeId->Option (List Nat)):Nat->List Field->Option (List Nat)
 |_,[]=>some []
 | i, f :: fs => if f.offset = i ∧ f.name ≠ "_" then (match scOf P f.type with
  |some k=>(match fsT P g (i+1) fs with|some ks=>some (k::ks)|none=>none)
  |none=>(match g f.type,P.info? f.type with
   |some k,some inf=>if inf.size=k.length then (match fsT P g (i+k.length) fs with|some ks=>some (k++ks)|none=>none) else none
   |_,_=>none)) else none
def stT (P:Program):Nat->TypeId->Option (List Nat)
 |0,_=>none
 |n+1,t=>match P.underlying t with
  |some (.struct fs)=>if P.stoodInHeld t=false then fsT P (stT P n) 0 fs.toList else none
  |_=>none
theorem IU {α:Type} {c:Bool} {a r:α} (h:(bif c then some a else none)=some r):c=true/\a=r:=by
 cases c with
 |true=>cases h;exact ⟨rfl,rfl⟩
 |false=>cases h
theorem aae {w:World} {d k:Nat} {t:TypeId} (hk:scOf P t=some k):(isAgg t).run P w= .ok false w/\∀{m:Mu} {a b:AV} {a' b':Value},VR m a a'->VR m b b'->∀{r:Bool},eqF k a b=some r->(Op.equalIn (d+1) t a' b').run P w= .ok r w:=by
 unfold scOf at hk
 have hag:∀u,P.underlying t=some u->(∀x,u≠ .struct x)->(∀n e,u≠ .array n e)->(isAgg t).run P w= .ok false w:=by
  intro u hu h1 h2
  unfold isAgg
  simp only [Sem.run_bind,run_underlying hu,Result.andThen_ok]
  cases u<;>first|rfl|exact absurd rfl (h1 _)|exact absurd rfl (h2 _ _)
 split at hk
 ·rename_i kk hu
  cases hk
  refine ⟨hag _ hu (fun x e=>by cases e) (fun n e' e=>by cases e),fun {m a b a' b'} ha hb {r} he=> ?_⟩
  cases a<;>cases b<;>simp only [eqF] at he<;>first|(cases he;done)|(simp at he;done)|skip
  rename_i k1 m1 k2 n1
  simp only [VR] at ha hb
  subst ha;subst hb
  obtain ⟨hc,he⟩:=IU he
  subst he
  rw [Bool.and_eq_true,decide_eq_true_eq] at hc
  obtain ⟨_,rfl⟩:=hc
  exact run_equalIn_int w d t k1 kk m1 n1 hu
 ·rename_i hu
  cases hk
  refine ⟨hag _ hu (fun x e=>by cases e) (fun n e' e=>by cases e),fun {m a b a' b'} ha hb {r} he=> ?_⟩
  cases a<;>cases b<;>simp only [eqF] at he<;>first|(cases he;done)|(simp at he;done)|skip
  rename_i m1 n1
  simp only [VR] at ha hb
  subst ha;subst hb
  obtain ⟨_,he⟩:=IU he
  subst he
  exact run_equalIn_bool' w d t m1 n1 hu
 ·rename_i hu
  cases hk
  refine ⟨hag _ hu (fun x e=>by cases e) (fun n e' e=>by cases e),fun {m a b a' b'} ha hb {r} he=> ?_⟩
  cases a<;>cases b<;>simp only [eqF] at he<;>first|(cases he;done)|(simp at he;done)|skip
  rename_i m1 n1
  simp only [VR] at ha hb
  subst ha;subst hb
  obtain ⟨_,he⟩:=IU he
  subst he
  rw [run_equalIn_string w d t _ _ hu,ByteArray.toList_eq,ByteArray.toList_eq]
 ·cases hk
theorem FU:∀{k ks:List Nat} {l r:List AV} {b:Bool},eqFs (k++ks) l r=some b->∃c,eqFs k (l.take k.length) (r.take k.length)=some c/\(c=false->b=false)/\(c=true->eqFs ks (l.drop k.length) (r.drop k.length)=some b)
 |[],ks,l,r,b,h=>⟨true,by simp [eqFs],(fun e=>by cases e),fun _=>h⟩
 |k0::k,ks,l,r,b,h=>by
  cases l with
  |nil=>cases h
  |cons a l=>
  cases r with
  |nil=>cases h
  |cons a2 r=>
  simp only [List.cons_append,eqFs] at h
  simp only [List.length_cons,List.take_succ_cons,List.drop_succ_cons,eqFs]
  cases hq:eqF k0 a a2 with
  |none=>rw [hq] at h;cases h
  |some q=>
   rw [hq] at h
   cases q with
   |true=>exact FU h
   |false=>cases h;exact ⟨false,rfl,fun _=>rfl,fun e=>by cases e⟩
theorem VRs.drop' {m:Mu}:∀{xs:List AV} {l:List Value},VRs m xs l->∀n,VRs m (xs.drop n) (l.drop n)
 |[],_,h,n=>by simp only [VRs] at h;subst h;simp [VRs]
 |a::xs,_,h,0=>h
 |a::xs,_,h,n+1=>by
  simp only [VRs] at h
  obtain ⟨v,vs,rfl,_,h2⟩:=h
  exact VRs.drop' h2 n
theorem IV {w:World} {D:Nat} {g:TypeId->Option (List Nat)} {m:Mu} {xs ys:Array Value}
  (G:∀{t:TypeId} {ks:List Nat},g t=some ks->(∃x,P.underlying t=some (.struct x))/\∀{l r:List AV} {l' r':List Value},VRs m l l'->VRs m r r'->∀{b:Bool},eqFs ks l r=some b->(Op.equalIn (D+1) t (.agg l'.toArray) (.agg r'.toArray)).run P w= .ok b w):
  ∀{fs:List Field} {i:Nat} {ks:List Nat},fsT P g i fs=some ks->∀{l r:List AV} {l' r':List Value},VRs m l l'->VRs m r r'->xs.toList.drop i=l'->ys.toList.drop i=r'->∀{b:Bool},eqFs ks l r=some b->(Op.eqFields (D+1) xs ys fs).run P w= .ok b w
 |[],i,ks,hk,l,r,l',r',hl,hr,hx,hy,b,he=>by
  cases hk
  cases l<;>cases r<;>first|(cases he;done)|skip
  cases he
  rfl
 |f::fs,i,ks,hk,l,r,l',r',hl,hr,hx,hy,b,he=>by
  simp only [fsT] at hk
  split at hk
  case isFalse=>cases hk
  rename_i hf
  obtain ⟨hoff,hn⟩:=hf
  unfold Op.eqFields
  rw [if_pos hn]
  have fin:∀{a' b':Value} {c:Bool},(part f.type xs f.offset).run P w= .ok a' w->(part f.type ys f.offset).run P w= .ok b' w->(Op.equalIn (D+1) f.type a' b').run P w= .ok c w->(c=false->b=false)->(c=true->(Op.eqFields (D+1) xs ys fs).run P w= .ok b w)->
    (do let a<-part f.type xs f.offset;let b<-part f.type ys f.offset;let r<-Op.equalIn (D+1) f.type a b;if (!r)=true then pure false else Op.eqFields (D+1) xs ys fs:Sem Bool).run P w= .ok b w:=fun {a' b' c} h1 h2 h3 h4 h5=>by
   simp only [Sem.run_bind,h1,h2,h3,Result.andThen_ok]
   cases c with
   |true=>simp only [Bool.not_true,Bool.false_eq_true,if_false];exact h5 rfl
   |false=>rw [h4 rfl];simp
  split at hk
  ·rename_i k hsc
   split at hk
   case h_2=>cases hk
   rename_i ks' h2
   cases hk
   cases l with
   |nil=>cases he
   |cons a l=>
   cases r with
   |nil=>cases he
   |cons b0 r=>
   simp only [VRs] at hl hr
   obtain ⟨a',la,rfl,ha,hl⟩:=hl
   obtain ⟨b',lb,rfl,hb,hr⟩:=hr
   have gx:xs[i]?=some a':=by
    have:(xs.toList.drop i)[0]?=some a':=by rw [hx];rfl
    rw [List.getElem?_drop] at this
    simpa using this
   have gy:ys[i]?=some b':=by
    have:(ys.toList.drop i)[0]?=some b':=by rw [hy];rfl
    rw [List.getElem?_drop] at this
    simpa using this
   have dx:xs.toList.drop (i+1)=la:=by rw [<-List.drop_drop,hx];rfl
   have dy:ys.toList.drop (i+1)=lb:=by rw [<-List.drop_drop,hy];rfl
   obtain ⟨s1,s2⟩:=aae (w:=w) (d:=D) hsc
   simp only [eqFs] at he
   cases hq:eqF k a b0 with
   |none=>rw [hq] at he;cases he
   |some q=>
    rw [hq] at he
    refine fin (a':=a') (b':=b') (c:=q) (by unfold part;simp [s1,hoff,gx]) (by unfold part;simp [s1,hoff,gy]) (s2 ha hb hq) (fun e=> ?_) (fun e=> ?_)
    ·subst e;cases he;rfl
    ·subst e;exact IV G h2 hl hr dx dy he
  ·split at hk
   case h_2=>cases hk
   rename_i k inf hg hi
   split at hk
   case isFalse=>cases hk
   rename_i hsz
   split at hk
   case h_2=>cases hk
   rename_i ks' h2
   cases hk
   obtain ⟨⟨sx,hst⟩,g2⟩:=G hg
   obtain ⟨c,c1,c2,c3⟩:=FU he
   have hag:(isAgg f.type).run P w= .ok true w:=by
    unfold isAgg
    simp [run_underlying hst]
   have pt:∀(zs:Array Value) (z':List Value),zs.toList.drop i=z'->(part f.type zs f.offset).run P w= .ok (.agg (z'.take k.length).toArray) w:=fun zs z' hz=>by
    unfold part
    simp only [Sem.run_bind,hag,Result.andThen_ok,if_true,sizeOf,typeInfo,run_program,hi,Sem.run_pure]
    congr 2
    apply Array.ext'
    rw [Array.toList_extract,hoff,hsz]
    simp only [List.extract_eq_take_drop,Nat.add_sub_cancel_left]
    rw [hz]
   refine fin (pt xs l' hx) (pt ys r' hy) (g2 (hl.take _) (hr.take _) c1) c2 (fun e=> ?_)
   exact IV G h2 (hl.drop' k.length) (hr.drop' k.length) (by rw [<-List.drop_drop,hx]) (by rw [<-List.drop_drop,hy]) (c3 e)
theorem PN {w:World} {m:Mu}:∀{n d:Nat} {t:TypeId} {ks:List Nat},stT P n t=some ks->(∃x,P.underlying t=some (.struct x))/\∀{l r:List AV} {l' r':List Value},VRs m l l'->VRs m r r'->∀{b:Bool},eqFs ks l r=some b->(Op.equalIn (n+d+1) t (.agg l'.toArray) (.agg r'.toArray)).run P w= .ok b w
 |0,_,_,_,h=>by cases h
 |n+1,d,t,ks,h=>by
  simp only [stT] at h
  split at h
  ·rename_i fs hu
   split at h
   ·rename_i hp
    refine ⟨⟨_,hu⟩,fun {l r l' r'} hl hr {b} he=> ?_⟩
    have hfo:P.fieldsOf t=fs:=by unfold Program.fieldsOf;rw [hu]
    rw [show n+1+d+1=(n+d+1)+1 by omega,run_equalIn_struct w (n+d+1) t _ _ (by rw [hfo];exact hu) hp,hfo]
    exact IV (D:=n+d) (fun {t ks} hg=>PN (d:=d) hg) h hl hr (by simp) (by simp) he
   ·cases h
  ·cases h
def isNe (op:BinOp):Bool:=match op with| .neq=>true|_=>false
theorem YE {op:BinOp} {ty yt:TypeId} {x y:Operand} {x' y':Od} {ks:List Nat} (ho:o.op= .binOp op ty x y yt) (hop:op= .eql\/op= .neq) (hk:stT P 4 ty=some ks) (hm:P.eqGuardType P.depth ty=false)
  (hx:odOf keep x=some x') (hy:odOf keep y=some y'):fV P keep o (.seq (isNe op) ks x' y'):=by
 intro O w0 w m φ h nt e t ac hs hf v hv
 obtain ⟨l,e1,hv⟩:=AV.pO hv
 obtain ⟨r,e2,hv⟩:=AV.pO hv
 have h1:=hf.od hx
 have h2:=hf.od hy
 rw [e1] at h1
 rw [e2] at h2
 simp only [VR] at h1 h2
 obtain ⟨l',h1,hl⟩:=h1
 obtain ⟨r',h2,hr⟩:=h2
 cases hq:eqFs ks l r with
 |none=>rw [hq] at hv;cases hv
 |some b=>
  rw [hq] at hv
  cases hv
  have hrun:(Op.equalIn 10000 ty (.agg l'.toArray) (.agg r'.toArray)).run P w= .ok b w:=by
   exact (PN (d:=9995) hk).2 hl hr hq
  have hg:(eqGuard op ty x y (.agg l'.toArray) (.agg r'.toArray)).run P w= .ok () w:=run_eqGuard_agg w op ty x y _ _ hm
  rcases hop with rfl|rfl
  ·refine ⟨.bool b,by simp [VR,isNe], ?_⟩
   have hb:=run_eql_struct (P:=P) w ty l'.toArray r'.toArray
   rw [hrun] at hb
   simp only [Result.andThen_ok] at hb
   simp [execOp,ho,h1,h2,hg,hb]
  ·refine ⟨.bool (!b),by simp [VR,isNe], ?_⟩
   have hb:=run_neq_struct (P:=P) w ty l'.toArray r'.toArray
   rw [hrun] at hb
   simp only [Result.andThen_ok] at hb
   simp [execOp,ho,h1,h2,hg,hb]
theorem YF {tys:Array TypeId} {x y:Operand} {x' y':Od} (ho:o.op= .call {callee:= .builtin .max,args:= #[x,y],argTypes:=tys}) (hx:odOf keep x=some x') (hy:odOf keep y=some y'):fV P keep o (.FQ x' y'):=by
 intro O w0 w m φ h nt e t ac hs hf v hv
 obtain ⟨k,a,hb,hv⟩:=AV.gG hv
 obtain ⟨k2,b,hb2,hv⟩:=AV.gG hv
 have h1:=hf.od hx
 have h2:=hf.od hy
 rw [hb] at h1
 rw [hb2] at h2
 simp only [VR] at h1 h2
 cases hv
 refine ⟨_,rfl, ?_⟩
 by_cases hab:b > a<;>simp [execOp,ho,resolve,invoke,builtin,h1,h2,Builtin.max_,Builtin.max2,hab]
theorem YG {tys:Array TypeId} {x y:Operand} {x' y':Od} (ho:o.op= .call {callee:= .builtin .min,args:= #[x,y],argTypes:=tys}) (hx:odOf keep x=some x') (hy:odOf keep y=some y'):fV P keep o (.Nk x' y'):=by
 intro O w0 w m φ h nt e t ac hs hf v hv
 obtain ⟨k,a,hb,hv⟩:=AV.gG hv
 obtain ⟨k2,b,hb2,hv⟩:=AV.gG hv
 have h1:=hf.od hx
 have h2:=hf.od hy
 rw [hb] at h1
 rw [hb2] at h2
 simp only [VR] at h1 h2
 cases hv
 refine ⟨_,rfl, ?_⟩
 by_cases hab:b < a<;>simp [execOp,ho,resolve,invoke,builtin,h1,h2,Builtin.min_,Builtin.min2,hab]
end
variable {P:Program}
section
variable {keep:List Nat} {o:Oper}
theorem pU {w:World} {k:IntKind} {n y:Nat} {code:BoundsCode} (h:n<=y):(Instr.sliceBound (.int k n) y code).run P w= .ok n w:=by
 have hb:(0:Int)<=(n:Int)/\(n:Int)<=(y:Int):=by omega
 unfold Instr.sliceBound
 simp only [asIntOf,Sem.run_bind,Sem.run_pure,Result.andThen_ok,if_pos hb]
 simp
theorem yh {w:World} {sl:Bool} {len cap:Nat} {lo hi mx:Option Value} {l h m:Nat}
  (hm:(mx=none/\m=cap)\/∃k,mx=some (.int k m)/\m<=cap) (hh:(hi=none/\mx=none/\h=len)\/∃k,hi=some (.int k h)/\h<=m) (hl:(lo=none/\l=0)\/∃k,lo=some (.int k l)/\l<=h):
  (Instr.sliceBounds sl len cap lo hi mx).run P w= .ok (l,h,m) w:=by
 unfold Instr.sliceBounds
 rcases hm with ⟨rfl,rfl⟩|⟨k1,rfl,hm⟩
 ·rcases hh with ⟨rfl,_,rfl⟩|⟨k2,rfl,hh⟩
  ·rcases hl with ⟨rfl,rfl⟩|⟨k3,rfl,hl⟩
   ·simp
   ·simp [pU hl]
  ·rcases hl with ⟨rfl,rfl⟩|⟨k3,rfl,hl⟩
   ·simp [pU hh]
   ·simp [pU hh,pU hl]
 ·rcases hh with ⟨_,h0,_⟩|⟨k2,rfl,hh⟩
  ·cases h0
  ·rcases hl with ⟨rfl,rfl⟩|⟨k3,rfl,hl⟩
   ·simp [pU hm,pU hh]
   ·simp [pU hm,pU hh,pU hl]
theorem Vg {O:dH} {w0 w:World} {m:Mu} {φ:Ph} {h:Hp O.X} (hs:SR O w0 w m φ h) {z g off len c n:Nat} {cap:Option Nat} {p:Pl} (hp:m g=some p) (hlc:len<=c) (hz:0 < p.z) (hzz:z=p.z)
  (hc:match cap with|none=>p.s+off+c*p.z=p.e|some k=>c=k) (hb:Ak h z g off len cap n=true):n<=c:=by
 unfold Ak at hb
 rw [Bool.or_eq_true] at hb
 rcases hb with hb|hb
 ·have:=Nat.le_of_ble_eq_true hb;omega
 ·cases cap with
  |some k=>simp only at hb hc;have:=Nat.le_of_ble_eq_true hb;omega
  |none=>
   simp only at hb hc
   split at hb
   ·rename_i l hl
    have h1:=Nat.le_of_ble_eq_true hb
    have h2:=(hs.row hp (fJ hl)).2
    subst hzz
    have h3:n*p.z<=c*p.z:=by omega
    exact Nat.le_of_mul_le_mul_right h3 hz
   ·cases hb
theorem obnd {α:Type} {x:Option AV} {e:Option α} {k:Nat->Option α} {r:α} (h:(match x with|none=>e|some v=>match nOf v with|some n=>k n|none=>none:Option α)=some r):(x=none/\e=some r)\/∃n v,x=some v/\nOf v=some n/\k n=some r:=by
 cases x with
 |none=>exact .inl ⟨rfl,h⟩
 |some v=>
  simp only at h
  cases hn:nOf v with
  |none=>rw [hn] at h;cases h
  |some n=>rw [hn] at h;exact .inr ⟨n,v,rfl,hn,h⟩
theorem bM {α:Type} {b:Bool} {x r:α} (h:(bif b then some x else none)=some r):b=true/\x=r:=by
 cases b with
 |false=>cases h
 |true=>cases h;exact ⟨rfl,rfl⟩
def oodOf (keep:List Nat) (x:Option Operand):Option (Option Od):=match x with|none=>some none|some x=>(match odOf keep x with|some a=>some (some a)|none=>none)
theorem ood {m:Mu} {nt:Nat} {e:En} {t:List AV} {a:Act} (f:FR m keep nt e t a) {x:Option Operand} {x':Option Od} (h:oodOf keep x=some x'):
  (x=none/\oev x' e t=none)\/∃y v,x=some y/\oev x' e t=some v/\VR m v (a.eval y):=by
 unfold oodOf at h
 cases x with
 |none=>cases h;exact .inl ⟨rfl,rfl⟩
 |some y=>
  simp only at h
  cases h1:odOf keep y with
  |none=>rw [h1] at h;cases h
  |some b=>rw [h1] at h;cases h;exact .inr ⟨y,_,rfl,rfl,f.od h1⟩
theorem pV {m:Mu} {nt:Nat} {e:En} {t:List AV} {a:Act} (f:FR m keep nt e t a) {x:Option Operand} {x':Option Od} (h:oodOf keep x=some x') {n:Nat} {v:AV} (hv:oev x' e t=some v) (hn:nOf v=some n):
  ∃k,x.map a.eval=some (.int k n):=by
 rcases ood f h with ⟨_,h2⟩|⟨y,v',rfl,h2,h3⟩
 ·rw [hv] at h2;cases h2
 ·rw [hv] at h2;cases h2
  obtain ⟨k,rfl⟩:=jS hn
  simp only [VR] at h3
  exact ⟨k,by simp [h3]⟩
theorem eU {m:Mu} {nt:Nat} {e:En} {t:List AV} {a:Act} (f:FR m keep nt e t a) {x:Option Operand} {x':Option Od} (h:oodOf keep x=some x') (hv:oev x' e t=none):x.map a.eval=none:=by
 rcases ood f h with ⟨rfl,_⟩|⟨y,v',rfl,h2,h3⟩
 ·rfl
 ·rw [hv] at h2;cases h2
theorem ok_sl {ty el:TypeId} {x:Operand} {lo hi mx:Option Operand} {x':Od} {lo' hi' mx':Option Od} {i:TypeInfo} (ho:o.op= .slice ty x lo hi mx) (hu:P.underlying ty=some (.slice el)) (abH:P.info? el=some i)
  (hx:odOf keep x=some x') (hlo:oodOf keep lo=some lo') (hhi:oodOf keep hi=some hi') (hmx:oodOf keep mx=some mx'):fV P keep o (.sl i.size x' lo' hi' mx'):=by
 intro O w0 w m φ h nt e t ac hs hf v hv
 have h1:=hf.od hx
 simp only [Mv.ev,slB] at hv
 have fin:∀y r,ac.eval x=y->(Instr.slice ty y (lo.map ac.eval) (hi.map ac.eval) (mx.map ac.eval)).run P w= .ok r w->(execOp ac.eval o).run P w= .ok (.value r) w:=fun y r h1 h2=>by
  have:(Instr.sliceAt ty y (lo.map ac.eval) (hi.map ac.eval) (mx.map ac.eval)).run P w= .ok r w:=by
   unfold Instr.sliceAt
   simp only [Sem.run_bind,run_underlying hu,Result.andThen_ok]
   exact h2
  simp [execOp,ho,h1,this]
 have run:∀a len cap l hh mm,(Instr.sliceBounds true len cap (lo.map ac.eval) (hi.map ac.eval) (mx.map ac.eval)).run P w= .ok (l,hh,mm) w->
   (Instr.slice ty (.slice a len cap) (lo.map ac.eval) (hi.map ac.eval) (mx.map ac.eval)).run P w= .ok (.slice (if mm=l then a else a.map (·.add (l*i.size))) (hh - l) (mm - l)) w:=fun a len cap l hh mm hb=>by
  unfold Instr.slice
  simp [run_underlying hu,hb,sizeOf,typeInfo,abH]
 generalize x'.ev e t=xa at*
 cases xa<;>first|(cases hv;done)|skip
 ·rename_i z g off len cap
  simp only at hv
  cases hzz:Nat.beq z i.size with
  |false=>rw [hzz] at hv;cases hv
  |true=>
   rw [hzz] at hv
   simp only [Bool.not_true,cond_false] at hv
   have hzz:=Nat.eq_of_beq_eq_true hzz
   split at hv
   ·cases hv
   ·rename_i mm hmm
    split at hv
    ·cases hv
    ·rename_i hh hhh
     split at hv
     ·cases hv
     ·rename_i l hl
      cases hv
      simp only [VR] at h1
      obtain ⟨p,ad,c,hp,hval,hlc,hcm,had,⟨hz,hpz⟩,hc⟩:=h1
      have hub:∀n,Ak h i.size g off len cap n=true->n<=c:=fun n hb=>Vg hs hp hlc hz (by omega) hc hb
      have M:(mm=none/\mx.map ac.eval=none)\/∃n k,mm=some n/\mx.map ac.eval=some (.int k n)/\n<=c:=by
       rcases obnd hmm with ⟨e1,e2⟩|⟨n,v,e1,e2,e3⟩
       ·cases e2;exact .inl ⟨rfl,eU hf hmx e1⟩
       ·obtain ⟨e4,rfl⟩:=bM e3
        obtain ⟨k,e5⟩:=pV hf hmx e1 e2
        exact .inr ⟨n,k,rfl,e5,hub n e4⟩
      have Hh:(hi.map ac.eval=none/\mx.map ac.eval=none/\hh=len)\/∃k,hi.map ac.eval=some (.int k hh)/\(match mm with|none=>hh<=c|some n=>hh<=n):=by
       rcases obnd hhh with ⟨e1,e2⟩|⟨n,v,e1,e2,e3⟩
       ·cases mm with
        |none=>
         cases e2
         refine .inl ⟨eU hf hhi e1, ?_,rfl⟩
         rcases M with ⟨_,M⟩|⟨_,_,M,_⟩
         ·exact M
         ·cases M
        |some _=>cases e2
       ·obtain ⟨e4,rfl⟩:=bM e3
        obtain ⟨k,e5⟩:=pV hf hhi e1 e2
        refine .inr ⟨k,e5, ?_⟩
        cases mm with
        |none=>exact hub n e4
        |some q=>exact Nat.le_of_ble_eq_true e4
      have L:(lo.map ac.eval=none/\l=0)\/∃k,lo.map ac.eval=some (.int k l)/\l<=hh:=by
       rcases obnd hl with ⟨e1,e2⟩|⟨n,v,e1,e2,e3⟩
       ·cases e2;exact .inl ⟨eU hf hlo e1,rfl⟩
       ·obtain ⟨e4,rfl⟩:=bM e3
        obtain ⟨k,e5⟩:=pV hf hlo e1 e2
        exact .inr ⟨k,e5,Nat.le_of_ble_eq_true e4⟩
      obtain ⟨M',hM'⟩:∃M',M'=(match mm with|none=>c|some n=>n):=⟨_,rfl⟩
      have hhM:hh<=M':=by
       rw [hM']
       rcases Hh with ⟨_,e2,rfl⟩|⟨_,_,e2⟩
       ·rcases M with ⟨rfl,_⟩|⟨_,_,_,e3,_⟩
        ·exact hlc
        ·rw [e2] at e3;cases e3
       ·cases mm<;>exact e2
      have hMc:M'<=c:=by
       rw [hM']
       rcases M with ⟨rfl,_⟩|⟨_,_,rfl,_,e⟩
       ·exact Nat.le_refl _
       ·exact e
      have hlh:l<=hh:=by rcases L with ⟨_,rfl⟩|⟨_,_,e⟩;exact Nat.zero_le _;exact e
      have hb:(Instr.sliceBounds true len c (lo.map ac.eval) (hi.map ac.eval) (mx.map ac.eval)).run P w= .ok (l,hh,M') w:=by
       refine yh ?_ ?_ L
       ·rcases M with ⟨rfl,e⟩|⟨n,k,rfl,e,e2⟩
        ·exact .inl ⟨e,hM'⟩
        ·exact .inr ⟨k,by rw [e,hM'],hMc⟩
       ·rcases Hh with ⟨e1,e2,e3⟩|⟨k,e1,e2⟩
        ·exact .inl ⟨e1,e2,e3⟩
        ·exact .inr ⟨k,e1,hhM⟩
      refine ⟨_, ?_,fin _ _ hval (run _ _ _ _ _ _ hb)⟩
      simp only [VR]
      refine ⟨p,if M'=l then ad else ad.add (l*i.size),M' - l,hp, ?_,by omega,by omega,fun h0=> ?_,⟨hz,hpz.trans hzz⟩, ?_⟩
      ·congr 1
       split<;>rfl
      ·rw [if_neg (by omega),had (by omega),je,Nat.add_assoc]
      ·rcases M with ⟨rfl,_⟩|⟨n,k,rfl,_,_⟩
       ·simp only at hM' ⊢
        subst hM'
        cases cap with
        |none=>
         simp only at hc ⊢
         have:M'*p.z=l*p.z+(M' - l)*p.z:=by rw [<-Nat.add_mul];congr 1;omega
         have e2:l*i.size=l*p.z:=by rw [hpz,hzz]
         omega
        |some k=>simp only at hc ⊢;omega
       ·simp only at hM' ⊢
        omega
 ·simp only at hv
  obtain ⟨hb,rfl⟩:=bM hv
  rw [Bool.and_eq_true,Bool.and_eq_true] at hb
  obtain ⟨⟨b1,b2⟩,b3⟩:=hb
  simp only [VR] at h1
  have zero:∀{x:Option Operand} {x':Option Od},oodOf keep x=some x'->∀v,oev x' e t=some v->(match nOf v with|some 0=>true|_=>false)=true->∃k,x.map ac.eval=some (.int k ((0:Nat):Int)):=fun hx v h1 h2=>by
   split at h2
   ·rename_i h3;exact pV hf hx h1 h3
   ·cases h2
  have L:(lo.map ac.eval=none/\0=0)\/∃k,lo.map ac.eval=some (.int k ((0:Nat):Int))/\0<=0:=by
   cases hh:oev lo' e t with
   |none=>exact .inl ⟨eU hf hlo hh,rfl⟩
   |some v=>rw [hh] at b1;obtain ⟨k,hk⟩:=zero hlo v hh b1;exact .inr ⟨k,hk,Nat.le_refl _⟩
  have M:(mx.map ac.eval=none/\0=0)\/∃k,mx.map ac.eval=some (.int k ((0:Nat):Int))/\0<=0:=by
   cases hh:oev mx' e t with
   |none=>exact .inl ⟨eU hf hmx hh,rfl⟩
   |some v=>rw [hh] at b3;obtain ⟨k,hk⟩:=zero hmx v hh b3;exact .inr ⟨k,hk,Nat.le_refl _⟩
  have Hh:(hi.map ac.eval=none/\mx.map ac.eval=none/\0=0)\/∃k,hi.map ac.eval=some (.int k ((0:Nat):Int))/\0<=0:=by
   cases hh:oev hi' e t with
   |none=>
    rw [hh] at b2
    simp only at b2
    cases hh2:oev mx' e t with
    |none=>exact .inl ⟨eU hf hhi hh,eU hf hmx hh2,rfl⟩
    |some v=>rw [hh2] at b2;cases b2
   |some v=>rw [hh] at b2;obtain ⟨k,hk⟩:=zero hhi v hh b2;exact .inr ⟨k,hk,Nat.le_refl _⟩
  have hb:(Instr.sliceBounds true 0 0 (lo.map ac.eval) (hi.map ac.eval) (mx.map ac.eval)).run P w= .ok (0,0,0) w:=yh M Hh L
  exact ⟨.slice none 0 0,rfl,fin _ _ h1 (run _ _ _ _ _ _ hb)⟩
 ·simp only at hv
  obtain ⟨hb,rfl⟩:=bM hv
  rw [Bool.and_eq_true,Bool.and_eq_true] at hb
  obtain ⟨⟨b1,b2⟩,b3⟩:=hb
  simp only [VR] at h1
  obtain ⟨a,c,h1,hcm,hac⟩:=h1
  have zero:∀{x:Option Operand} {x':Option Od},oodOf keep x=some x'->∀v,oev x' e t=some v->(match nOf v with|some 0=>true|_=>false)=true->∃k,x.map ac.eval=some (.int k ((0:Nat):Int)):=fun hx v h1 h2=>by
   split at h2
   ·rename_i h3;exact pV hf hx h1 h3
   ·cases h2
  have L:(lo.map ac.eval=none/\0=0)\/∃k,lo.map ac.eval=some (.int k ((0:Nat):Int))/\0<=0:=by
   cases hh:oev lo' e t with
   |none=>exact .inl ⟨eU hf hlo hh,rfl⟩
   |some v=>rw [hh] at b1;obtain ⟨k,hk⟩:=zero hlo v hh b1;exact .inr ⟨k,hk,Nat.le_refl _⟩
  obtain ⟨M',hM',hMc⟩:∃M',((mx.map ac.eval=none/\M'=c)\/∃k,mx.map ac.eval=some (.int k (M':Nat))/\M'<=c)/\M'<=c:=by
   cases hh:oev mx' e t with
   |none=>exact ⟨c, .inl ⟨eU hf hmx hh,rfl⟩,Nat.le_refl _⟩
   |some v=>rw [hh] at b3;obtain ⟨k,hk⟩:=zero hmx v hh b3;exact ⟨0, .inr ⟨k,hk,Nat.zero_le _⟩,Nat.zero_le _⟩
  have Hh:(hi.map ac.eval=none/\mx.map ac.eval=none/\0=0)\/∃k,hi.map ac.eval=some (.int k ((0:Nat):Int))/\0<=M':=by
   cases hh:oev hi' e t with
   |none=>
    rw [hh] at b2
    simp only at b2
    cases hh2:oev mx' e t with
    |none=>exact .inl ⟨eU hf hhi hh,eU hf hmx hh2,rfl⟩
    |some v=>rw [hh2] at b2;cases b2
   |some v=>rw [hh] at b2;obtain ⟨k,hk⟩:=zero hhi v hh b2;exact .inr ⟨k,hk,Nat.zero_le _⟩
  have hb:(Instr.sliceBounds true 0 c (lo.map ac.eval) (hi.map ac.eval) (mx.map ac.eval)).run P w= .ok (0,0,M') w:=yh hM' Hh L
  refine ⟨_, ?_,fin _ _ h1 (run _ _ _ _ _ _ hb)⟩
  refine ⟨_,_,rfl,by omega,fun hn=> ?_⟩
  split at hn
  ·omega
  ·cases a with
   |none=>have:=hac rfl;omega
   |some a=>cases hn
theorem YH {ty:TypeId} {x:Operand} {lo hi:Option Operand} {x':Od} {lo' hi':Option Od} (ho:o.op= .slice ty x lo hi none) (hu:P.underlying ty=some .string)
  (hx:odOf keep x=some x') (hlo:oodOf keep lo=some lo') (hhi:oodOf keep hi=some hi'):fV P keep o (.sls x' lo' hi'):=by
 intro O w0 w m φ h nt e t ac hs hf v hv
 have h1:=hf.od hx
 obtain ⟨s,hb,hv⟩:=AV.lL hv
 rw [hb] at h1
 simp only [VR] at h1
 simp only [slS] at hv
 have hsz:(⟨s.toArray⟩:ByteArray).size=s.length:=by show s.toArray.size=_;simp
 split at hv
 ·cases hv
 ·rename_i hh hhh
  split at hv
  ·cases hv
  ·rename_i l hl
   cases hv
   have Hh:(hi.map ac.eval=none/\(none:Option Value)=none/\hh=s.length)\/∃k,hi.map ac.eval=some (.int k hh)/\hh<=s.length:=by
    rcases obnd hhh with ⟨e1,e2⟩|⟨n,v,e1,e2,e3⟩
    ·cases e2;exact .inl ⟨eU hf hhi e1,rfl,rfl⟩
    ·obtain ⟨e4,rfl⟩:=bM e3
     obtain ⟨k,e5⟩:=pV hf hhi e1 e2
     exact .inr ⟨k,e5,Nat.le_of_ble_eq_true e4⟩
   have L:(lo.map ac.eval=none/\l=0)\/∃k,lo.map ac.eval=some (.int k l)/\l<=hh:=by
    rcases obnd hl with ⟨e1,e2⟩|⟨n,v,e1,e2,e3⟩
    ·cases e2;exact .inl ⟨eU hf hlo e1,rfl⟩
    ·obtain ⟨e4,rfl⟩:=bM e3
     obtain ⟨k,e5⟩:=pV hf hlo e1 e2
     exact .inr ⟨k,e5,Nat.le_of_ble_eq_true e4⟩
   have hbd:(Instr.sliceBounds false s.length s.length (lo.map ac.eval) (hi.map ac.eval) none).run P w= .ok (l,hh,s.length) w:=yh (.inl ⟨rfl,rfl⟩) Hh L
   refine ⟨_,rfl, ?_⟩
   have hrun:(Instr.sliceAt ty (.string ⟨s.toArray⟩) (lo.map ac.eval) (hi.map ac.eval) none).run P w= .ok (.string ⟨((s.take hh).drop l).toArray⟩) w:=by
    unfold Instr.sliceAt Instr.slice
    simp only [Sem.run_bind,run_underlying hu,Result.andThen_ok,Option.isSome_none,Bool.false_eq_true,if_false,hsz,hbd,Sem.run_pure]
    congr 2
    apply ByteArray.ext
    simp [ByteArray.data_extract,List.extract_eq_take_drop]
    rw [List.drop_take]
   simp only [execOp,ho,h1,Option.map_none,Sem.run_bind,hrun,Result.andThen_ok,Sem.run_pure]
end
variable {P:Program}
def YI (O:dH) (w0:World) (m:Mu) (h:Hp O.X) (v:AV) (h':Hp O.X) (r:Result Next):Prop:=
 ∃m' φ' w' v',(∀g,g < h.n->m' g=m g)/\h.n<=h'.n/\SR O w0 w' m' φ' h'/\VR m' v v'/\(r= .ok (.value v') w'\/(r= .ok .skip w'/\v'=undef))
theorem qN {O:dH} {w0 w:World} {m m':Mu} {φ:Ph} {h:Hp O.X} (hs:SR O w0 w m φ h) (hg:∀g,g < h.n->m' g=m g):Ext m m':=fun g p hp=>by rw [hg g (hs.dom g p hp)];exact hp
theorem Ap {w:World} {b o:Nat} {cs:Array Value} {ty:TypeId} {fz:Nat×Nat} (h:w.heap[b]?=some (.cells cs ty fz)) (v:Value):
  (w.setCell ⟨b,o,none⟩ v).heap[b]?=some (.cells (cs.setIfInBounds o v) ty fz):=by
 have hlt:=lt_of_block h
 have h':w.heap[b]= .cells cs ty fz:=by simpa [Array.getElem?_eq_getElem hlt] using h
 show (w.heap.modify b _)[b]?=_
 rw [Array.getElem?_eq_getElem (by simpa using hlt),Array.getElem_modify_self,h']
 rfl
theorem lN {b:Nat} {ty:TypeId} {fz:Nat×Nat}:∀(vs:List Value) (o:Nat) (w:World) (cs:Array Value),w.heap[b]?=some (.cells cs ty fz)->o+vs.length<=cs.size->
  ∃cs',(w.setCells b o vs).heap[b]?=some (.cells cs' ty fz)/\cs'.size=cs.size/\∀i,cs'[i]?=if o<=i/\i < o+vs.length then vs[i - o]? else cs[i]?
 |[],o,w,cs,h,_=>⟨cs,h,rfl,fun i=>by rw [if_neg (by simp)]⟩
 |v::vs,o,w,cs,h,hl=>by
  obtain ⟨cs',h1,h2,h3⟩:=lN vs (o+1) (w.setCell ⟨b,o,none⟩ v) (cs.setIfInBounds o v) (Ap h v) (by simp at hl ⊢;omega)
  refine ⟨cs',h1,by rw [h2,Array.size_setIfInBounds],fun i=> ?_⟩
  rw [h3,Array.getElem?_setIfInBounds]
  simp only [List.length_cons] at hl ⊢
  by_cases e:o=i
  ·subst e
   rw [if_neg (by omega),if_pos rfl,if_pos (by omega),if_pos (by omega)]
   simp
  ·by_cases h4:o+1<=i/\i < o+1+vs.length
   ·rw [if_pos h4,if_pos (by omega),show i - o=(i - (o+1))+1 by omega,List.getElem?_cons_succ]
   ·rw [if_neg h4,if_neg e,if_neg (by omega)]
theorem pW {S:Nat->Prop} {b:Nat} (hb:S b):∀(vs:List Value) (o:Nat) {w0 w:World},Upd S w0 w->Upd S w0 (w.setCells b o vs)
 |[],_,_,_,h=>h
 |v::vs,o,_,_,h=>pW hb vs (o+1) (h.setCell (p:=⟨b,o,none⟩) (.inl hb) v)
def spl (off:Nat) (vs l:List AV):List AV:=l.take off++(vs++l.drop (off+vs.length))
theorem Vh {off:Nat} {vs l:List AV} (h:off+vs.length<=l.length):(spl off vs l).length=l.length:=by simp [spl];omega
theorem Vj {off:Nat} {vs l:List AV} (h:off+vs.length<=l.length) (i:Nat):(spl off vs l)[i]?=if off<=i/\i < off+vs.length then vs[i - off]? else l[i]?:=by
 unfold spl
 rw [List.getElem?_append,List.length_take,Nat.min_eq_left (by omega)]
 by_cases h1:i < off
 ·rw [if_pos h1,if_neg (by omega),List.getElem?_take,if_pos h1]
 ·rw [if_neg h1,List.getElem?_append]
  by_cases h2:i < off+vs.length
  ·rw [if_pos (by omega),if_pos (by omega)]
  ·rw [if_neg (by omega),if_neg (by omega),List.getElem?_drop]
   congr 1
   omega
theorem VRs.sG {m:Mu} {vs:List AV} {vs':List Value} (h:VRs m vs vs') (h1:∀a∈vs,a.one=true):∀v∈vs',v.oneCell'=true:=by
 intro v hv
 obtain ⟨i,hi,rfl⟩:=List.mem_iff_getElem.1 hv
 have hi':i < vs.length:=by rw [<-h.len];exact hi
 obtain ⟨v',h2,h3⟩:=h.get (List.getElem?_eq_getElem hi')
 rw [List.getElem?_eq_getElem hi] at h2
 cases h2
 exact h3.one (h1 _ (List.getElem_mem hi'))
namespace SR
variable {O:dH} {w0 w:World} {m:Mu} {φ:Ph} {h:Hp O.X}
theorem DJ (H:SR O w0 w m φ h) {g:Nat} {l:List AV} {p:Pl} (hg:h.get g=some (.rw l)) (hp:m g=some p) {off n:Nat} (hl:off+n<=l.length):
  (∀j,j < n->(w.cell? ⟨p.b,p.s+off+j,none⟩).isSome=true)/\∀j,j < n->w.frozen? ⟨p.b,p.s+off+j,none⟩=false:=by
 obtain ⟨cs,ty,fz,h1,h2,h3,h4,h5,h6,h7⟩:=H.blk g _ hg p hp
 refine ⟨fun j hj=> ?_,fun j hj=> ?_⟩
 ·have:p.s+off+j < cs.size:=by omega
  simp [World.cell?,h1,this]
 ·have:=h2.at (i:=p.s+off+j) (by omega)
  simp only [World.frozen?,h1]
  exact this
theorem write (H:SR O w0 w m φ h) {g:Nat} {l vs:List AV} {vs':List Value} {p:Pl} (hg:h.get g=some (.rw l)) (hp:m g=some p) {off:Nat} (hl:off+vs.length<=l.length) (hv:VRs m vs vs') (h1:∀a∈vs,a.one=true):
  SR O w0 (w.setCells p.b (p.s+off) vs') m (φ.set g fun k=>k=p.b) (h.put g (.rw (spl off vs l))):=by
 obtain ⟨cs,ty,fz,b1,b2,b3,b4,b5,b6,b7⟩:=H.blk g _ hg p hp
 have hlen:=hv.len
 obtain ⟨cs',c1,c2,c3⟩:=lN vs' (p.s+off) w cs b1 (by omega)
 refine H.upd (c':= .rw (spl off vs l)) hg rfl hp (pW ((b6 p.b).2 rfl) vs' _ (Upd.refl _ _)) ?_ rfl (fun k hk=> .inl ((b6 k).2 hk))
 refine ⟨cs',ty,fz,c1,c2.symm▸b2,by omega,by rw [Vh hl];exact b4,fun i v hi=> ?_,fun k=>Iff.rfl,b7⟩
 rw [Vj hl] at hi
 show∃v',cs'[p.s+i]?=some v'/\_
 rw [c3]
 by_cases hin:off<=i/\i < off+vs.length
 ·rw [if_pos hin] at hi
  rw [if_pos (by omega),show p.s+i - (p.s+off)=i - off by omega]
  obtain ⟨v',d1,d2⟩:=hv.get hi
  exact ⟨v',d1,d2,h1 _ (List.mem_of_getElem? hi)⟩
 ·rw [if_neg hin] at hi
  rw [if_neg (by omega)]
  exact b5 i v hi
theorem alloc (H:SR O w0 w m φ h) {l:List AV} {cs:Array Value} {ty:TypeId} {fz:Nat×Nat} (hv:VRs m l (cs.toList.take l.length)) (hl:l.length<=cs.size) (h1:∀a∈l,a.one=true) (hfz:PH fz cs.size) {z e:Nat} (hz:z≠1->fz=(0,0)) (he:e<=cs.size) (hle:l.length<=e):
  SR O w0 (w.alloc (.cells cs ty fz)) (m.set h.n ⟨w.heap.size,0,e,z⟩) (φ.set h.n fun k=>k=w.heap.size) (h.push (.rw l)):=by
 refine H.new ((Below.refl _ _).alloc (Nat.le_refl _) _) ?_ (fun _ k hk=>by omega)
 refine ⟨cs,ty,fz,heap_alloc_new w _,hfz,he,by simpa using hle,fun i v hi=> ?_,fun k=>Iff.rfl,hz⟩
 obtain ⟨v',d1,d2⟩:=hv.get hi
 rw [List.getElem?_take] at d1
 split at d1
 ·exact ⟨v',by simpa using d1,d2.ext (Mu.iK H.lK _),h1 _ (List.mem_of_getElem? hi)⟩
 ·cases d1
end SR
inductive Ef where
 |alloc (cs:List AV)
 |box (x:Od)
 |aF (z len:Nat) (zero:List AV) (parts:List (Nat×Nat×Od))
 |store (n:Nat) (a x:Od)
 |append (z bytes:Nat) (x y:Od)
 |Aq (z bytes:Nat) (zero:List AV) (x n:Od)
 |copy (z:Nat) (x y:Od)
 |clear (z:Nat) (zero:List AV) (x:Od)
 |yj (z bytes:Nat) (zero:List AV) (l c:Od)
 |s2b (x:Od)
 |mark (x:Od)
 |apps (bytes:Nat) (x y:Od)
def allOne:List AV->Bool
 |[]=>true
 |a::l=>a.one && allOne l
theorem kY {l:List AV} (h:allOne l=true):∀a∈l,a.one=true:=by
 induction l with
 |nil=>intro a ha;cases ha
 |cons x l ih=>
  simp only [allOne,Bool.and_eq_true] at h
  intro a ha
  rcases List.mem_cons.1 ha with rfl|ha
  ·exact h.1
  ·exact ih h.2 a ha
theorem pX {m:Mu} {a:AV} {l:List AV} {v:Value} (h:cellsOf a=some l) (hv:VR m a v):VRs m l v.cells.toList:=by
 cases a<;>simp only [cellsOf] at h<;>first|(cases h;done)|skip
 case agg cs=>cases h;obtain ⟨vs,rfl,h2⟩:=VR.DI hv;simpa [Value.cells] using h2
 all_goals
  cases h
  have:v.cells= #[v]:=by
   have:=hv.one (by rfl)
   cases v<;>first|rfl|(simp [Value.oneCell'] at this)
  rw [this]
  simp only [VRs]
  exact ⟨v,[],rfl,hv,rfl⟩
def rep (l:List AV):Nat->List AV
 |0=>[]
 |n+1=>l++rep l n
noncomputable def elems {X:Type} (h:Hp X) (z:Nat) (y:AV):Option (Nat×List AV):=
 match y with
 | .ae=>some (0,[])
 | .bV=>some (0,[])
 | .slice z' g off len _=>bif Nat.beq z' z then (match rowOf h g with
  |some l=>(match takeN (len*z) off l with|some r=>some (len,r)|none=>none)
  |none=>none) else none
 |_=>none
noncomputable def appA {X:Type} (h:Hp X) (z bytes:Nat) (x:AV) (m:Nat) (vs:List AV):Option (AV×Hp X):=
 bif Nat.beq m 0 then (match x with| .ae=>some (.ae,h)| .slice z' g off len cap=>some (.slice z' g off len cap,h)| .bV=>some (.bV,h)|_=>none) else
 match x with
 | .ae=>bif Nat.ble (m*bytes) 140737488355328 && Nat.ble m maxLen then some (.slice z h.n 0 m none,h.push (.rw vs)) else none
 | .slice z' g off len cap=>
  bif !(Nat.beq z' z && Nat.ble ((len+m)*bytes) 140737488355328 && Nat.ble (len+m) maxLen) then none else
  match cap with
  |some k=>
   bif Nat.ble (len+m) k then
    (match h.get g with
    |some (.rw l)=>bif Nat.ble (off+(len+m)*z) l.length then some (.slice z g off (len+m) (some k),h.put g (.rw (spl (off+len*z) vs l))) else none
    |_=>none)
   else (match rowOf h g with
    |some l=>(match takeN (len*z) off l with|some r=>some (.slice z h.n 0 (len+m) none,h.push (.rw (r++vs)))|none=>none)
    |none=>none)
  |none=>
   match h.get g with
   |some (.rw l)=>
    bif Nat.ble (off+(len+m)*z) l.length then some (.slice z g off (len+m) none,h.put g (.rw (spl (off+len*z) vs l)))
    else (match takeN (len*z) off l with|some r=>some (.slice z h.n 0 (len+m) none,(h.del g).push (.rw (r++vs)))|none=>none)
   |_=>none
 |_=>none
noncomputable def KR {X:Type} (h:Hp X) (z:Nat) (x:AV) (m:Nat) (vs:List AV):Option (AV×Hp X):=
 match x with
 | .ae=>some (.int .i64 0,h)
 | .slice z' g off len _=>bif Nat.beq z' z then (bif Nat.beq (min m len) 0 then some (.int .i64 0,h) else (match h.get g with
  |some (.rw l)=>bif Nat.ble (off+min m len*z) l.length then some (.int .i64 ((min m len:Nat):Int),h.put g (.rw (spl off (vs.take (min m len*z)) l))) else none
  |_=>none)) else none
 |_=>none
noncomputable def Ef.ev {X:Type} (o:Ef) (e:En) (t:List AV) (h:Hp X):Option (AV×Hp X):=
 match o with
 | .alloc cs=>some (.ptr h.n 0,h.push (.rw cs))
 | .box x=>match cellsOf (x.ev e t) with
  |some l=>bif allOne l then some (.ptr h.n 0,h.push (.rw l)) else none
  |none=>none
 | .aF z len zero parts=>match fillA (rep zero len) (parts.map fun p=>(p.1,p.2.1,p.2.2.ev e t)) with
  |some l=>bif allOne l && Nat.beq l.length (len*z) && Nat.ble len maxLen then some (.slice z h.n 0 len (some len),h.push (.rw l)) else none
  |none=>none
 | .store n a x=>match a.ev e t with
  | .ptr g off=>(match cellsOf (x.ev e t) with
   |some vs=>bif allOne vs && Nat.beq vs.length n then (match h.get g with
    |some (.rw l)=>bif Nat.ble (off+n) l.length then some (.bot,h.put g (.rw (spl off vs l))) else none
    |_=>none) else none
   |none=>none)
  |_=>none
 | .append z bytes x y=>match elems h z (y.ev e t) with
  |some (m,vs)=>appA h z bytes (x.ev e t) m vs
  |none=>none
 | .Aq z bytes zero x n=>match x.ev e t with
  | .ae=>(match nOf (n.ev e t) with
   |some k=>bif !Nat.beq k 0 && Nat.ble (k*bytes) 140737488355328 && Nat.ble k maxLen then some (.slice z h.n 0 k none,h.push (.rw (rep zero k))) else none
   |none=>none)
  | .slice z' g o n' (some c)=>(match nOf (n.ev e t) with
   |some k=>(match elems h z (.slice z' g o n' (some c)) with
    |some (_,vs)=>bif Nat.blt c (n'+k) && Nat.blt 0 k && Nat.ble ((n'+k)*bytes) 140737488355328 && Nat.ble (n'+k) maxLen then some (.slice z h.n 0 (n'+k) none,h.push (.rw (vs++rep zero k))) else none
    |none=>none)
   |none=>none)
  |_=>none
 | .copy z x y=>match elems h z (y.ev e t) with
  |some (m,vs)=>KR h z (x.ev e t) m vs
  |none=>none
 | .clear z zero x=>match x.ev e t with
  | .ae=>some (.tup [],h)
  | .slice z' g off len _=>bif Nat.beq z' z then (bif Nat.beq len 0 then some (.tup [],h) else (match h.get g with
    |some (.rw l)=>bif Nat.ble (off+len*z) l.length then some (.tup [],h.put g (.rw (spl off (rep zero len) l))) else none
    |_=>none)) else none
  |_=>none
 | .yj z bytes zero l c=>match nOf (l.ev e t),nOf (c.ev e t) with
  |some n,some k=>bif Nat.ble n k && Nat.ble (bytes*k) 140737488355328 && Nat.ble k maxLen then some (.slice z h.n 0 n (some k),h.push (.rw (rep zero k))) else none
  |_,_=>none
 | .s2b x=>match x.ev e t with
  | .str s=>bif Nat.ble s.length maxLen then some (.slice 1 h.n 0 s.length none,h.push (.rw (s.map fun b=> .int .u8 b.toNat))) else none
  |_=>none
 | .mark x=>match x.ev e t with
  | .slice z g off len cap=>bif Nat.beq len 0 then none else bif Nat.beq z 1 then (match h.get g with|some (.rw l)=>some (.slice z g off len cap,h.put g (.rw l))|_=>none) else none
  |_=>none
 | .apps bytes x y=>match y.ev e t with
  | .str s=>appA h 1 bytes (x.ev e t) s.length (s.map fun b=> .int .u8 b.toNat)
  |_=>none
def uV (P:Program) (keep:List Nat) (o:Oper) (ef:Ef):Prop:=
 ∀{O:dH} {w0 w:World} {m:Mu} {φ:Ph} {h:Hp O.X} {nt:Nat} {e:En} {t:List AV} {a:Act},SR O w0 w m φ h->FR m keep nt e t a->∀{v:AV} {h':Hp O.X},ef.ev e t h=some (v,h')->
  YI O w0 m h v h' ((execOp a.eval o).run P w)
theorem gJ (m:Mu) (n:Nat) (p:Pl):∀g,g < n->m.set n p g=m g:=fun g hg=>by simp [Mu.set];omega
section
variable {keep:List Nat} {o:Oper}
theorem Nl {n:Nat}:PH (0,0) n:= .inl rfl
theorem IW {ty:TypeId} {i:TypeInfo} {z:Value} {l:List AV} (ho:o.op= .alloc ty) (hi:P.info? ty=some i) (hz:i.zero=some z) (hl:avOfs z.cells.toList=some l):uV P keep o (.alloc l):=by
 intro O w0 w m φ h nt e t ac hs hf v h' hv
 cases hv
 obtain ⟨h1,h2⟩:=gI m hl
 have hlen:l.length=z.cells.size:=by have:=h1.len;simpa using this.symm
 refine ⟨_,_,_, .pointer (some ⟨w.heap.size,0,none⟩),gJ m _ ⟨w.heap.size,0,z.cells.size,0⟩,Nat.le_succ _,hs.alloc (ty:=ty) (fz:=(0,0)) (cs:=z.cells) (by rw [hlen,<-Array.length_toList,List.take_length];exact h1) (by omega) h2 Nl (fun _=>rfl) (Nat.le_refl _) (by omega),⟨_,Mu.set_self _ _ _,by simp⟩, .inl ?_⟩
 simp [execOp,ho,Instr.alloc,zeroValue,typeInfo,hi,hz,newVar,newRow]
theorem PO {ty:TypeId} {x:Operand} {x':Od} (ho:o.op= .box ty x) (hx:odOf keep x=some x'):uV P keep o (.box x'):=by
 intro O w0 w m φ h nt e t ac hs hf v h' hv
 have h1:=hf.od hx
 simp only [Ef.ev] at hv
 cases hc:cellsOf (x'.ev e t) with
 |none=>rw [hc] at hv;cases hv
 |some l=>
  rw [hc] at hv
  simp only at hv
  obtain ⟨h2,hv⟩:=bM hv
  cases hv
  have h3:=pX hc h1
  have hlen:l.length=(ac.eval x).cells.size:=by have:=h3.len;simpa using this.symm
  refine ⟨_,_,_, .pointer (some ⟨w.heap.size,0,none⟩),gJ m _ ⟨w.heap.size,0,(ac.eval x).cells.size,0⟩,Nat.le_succ _,hs.alloc (ty:=ty) (fz:=(0,0)) (cs:=(ac.eval x).cells) (by rw [hlen,<-Array.length_toList,List.take_length];exact h3) (by omega) (kY h2) Nl (fun _=>rfl) (Nat.le_refl _) (by omega),⟨_,Mu.set_self _ _ _,by simp⟩, .inl ?_⟩
  simp [execOp,ho,Instr.box,newVar,newRow]
theorem IX {ty:TypeId} {a x:Operand} {a' x':Od} {i:TypeInfo} (ho:o.op= .store ty a x) (hi:P.info? ty=some i) (ha:odOf keep a=some a') (hx:odOf keep x=some x'):uV P keep o (.store i.size a' x'):=by
 intro O w0 w m φ h nt e t ac hs hf v h' hv
 have h1:=hf.od ha
 have h2:=hf.od hx
 simp only [Ef.ev] at hv
 have fin:∀y w',ac.eval a=y->(Instr.storeAt ty y (ac.eval x)).run P w= .ok () w'->(execOp ac.eval o).run P w= .ok .skip w':=fun y w' h1 h2=>by simp [execOp,ho,h1,h2]
 generalize a'.ev e t=aa at*
 cases aa<;>simp only [] at hv<;>first|(cases hv;done)|skip
 rename_i g off
 cases hc:cellsOf (x'.ev e t) with
 |none=>rw [hc] at hv;cases hv
 |some vs=>
  rw [hc] at hv
  simp only at hv
  cases hb:(allOne vs && Nat.beq vs.length i.size) with
  |false=>rw [hb] at hv;cases hv
  |true=>
   rw [hb] at hv
   simp only [cond_true] at hv
   rw [Bool.and_eq_true] at hb
   obtain ⟨hone,hsz⟩:=hb
   have hsz:=Nat.eq_of_beq_eq_true hsz
   split at hv
   ·rename_i l hg
    obtain ⟨hle,hv⟩:=bM hv
    have hle:=Nat.le_of_ble_eq_true hle
    cases hv
    obtain ⟨p,hp,hval⟩:=h1
    have hvs:=pX hc h2
    have hlen:=hvs.len
    rw [<-hsz] at hle
    obtain ⟨k1,k2⟩:=hs.DJ hg hp hle
    refine ⟨m,_,_,undef,fun _ _=>rfl,Nat.le_refl _,hs.write hg hp hle hvs (kY hone),by simp [VR], .inr ⟨fin _ _ hval ?_,rfl⟩⟩
    have hst:=run_storeCells_cells (P:=P) p.b (p.s+off) (ac.eval x).cells.toList 0 w (fun j hj=>by simpa using k1 j (by rw [<-hlen];exact hj)) (fun j hj=>by simpa using k2 j (by rw [<-hlen];exact hj)) (hvs.sG (kY hone))
    have hsz':(ac.eval x).cells.size=i.size:=by rw [<-hsz,<-hlen];simp
    unfold Instr.storeAt Instr.sureAddr storeVar
    simp only [Sem.run_bind,Sem.run_pure,Result.andThen_ok,sizeOf,typeInfo,run_program,hi,hsz',ne_eq,not_true_eq_false,if_false]
    exact hst
   ·cases hv
end
variable {P:Program}
section
variable {O:dH} {w0 w:World} {m:Mu} {φ:Ph} {h:Hp O.X}
theorem jf (hs:SR O w0 w m φ h) {z n:Nat} {y:AV} {r:List AV} {v:Value} (he:elems h z y=some (n,r)) (hv:VR m y v):
  ∃ad c vs,v= .slice ad n c/\n<=c/\c<=maxLen/\VRs m r vs/\vs.length=n*z/\r.length=n*z/\(∀a∈r,a.one=true)/\(ad=none->n=0/\c=0)/\(∀x,ad=some x->∀(j:Nat) u,vs[j]?=some u->w.cell? (x.add j)=some u):=by
 unfold elems at he
 split at he
 ·cases he
  simp only [VR] at hv
  subst hv
  exact ⟨none,0,[],rfl,Nat.le_refl _,by unfold maxLen;omega,by simp [VRs],by simp,by simp,by simp,fun _=>⟨rfl,rfl⟩,fun x hx=>by cases hx⟩
 ·cases he
  simp only [VR] at hv
  obtain ⟨a,c,rfl,hcm,hn⟩:=hv
  exact ⟨a,c,[],rfl,Nat.zero_le _,hcm,by simp [VRs],by simp,by simp,by simp,fun h=>⟨rfl,hn h⟩,fun x _ j u hj=>by simp at hj⟩
 ·rename_i z' g off len cap
  cases hz:Nat.beq z' z with
  |false=>rw [hz] at he;cases he
  |true=>
   rw [hz] at he
   simp only [cond_true] at he
   have hz:=Nat.eq_of_beq_eq_true hz
   cases hr:rowOf h g with
   |none=>rw [hr] at he;cases he
   |some l=>
    rw [hr] at he
    simp only at he
    cases ht:takeN (len*z) off l with
    |none=>rw [ht] at he;cases he
    |some r'=>
     rw [ht] at he
     cases he
     simp only [VR] at hv
     obtain ⟨p,ad,c,hp,rfl,hlc,hcm,had,⟨hz0,hpz⟩,_⟩:=hv
     obtain ⟨hrow,_⟩:=hs.row hp (fJ hr)
     obtain ⟨vs,k1,k2,k3,k4⟩:=qM hrow ht
     refine ⟨some ad,c,vs,rfl,hlc,hcm,k1,k2,by rw [<-k1.len,k2],k4,(fun hx=>by cases hx),fun x hx j u hj=> ?_⟩
     cases hx
     have hc:c≠0:=by
      intro hc
      have:n=0:=by omega
      subst this
      rw [Nat.zero_mul] at k2
      have:=List.eq_nil_of_length_eq_zero k2
      subst this
      simp at hj
     rw [had hc,je,Nat.add_assoc]
     exact k3 j u hj
 ·cases he
theorem yO (hs:SR O w0 w m φ h) {e:TypeId} {z:Nat} {l:List AV} {vs:List Value} {rest:Array Value} (hv:VRs m l vs) (h1:∀a∈l,a.one=true) {cap n:Nat} (hz:0 < z) (hn:vs.length=n*z) (hsz:vs.length+rest.size=cap*z) (hcm:cap<=maxLen):
  SR O w0 (w.drew.alloc (.cells (vs.toArray++rest) e)) (m.set h.n ⟨w.heap.size,0,cap*z,z⟩) (φ.set h.n fun k=>k=w.heap.size) (h.push (.rw l))/\
  VR (m.set h.n ⟨w.heap.size,0,cap*z,z⟩) (.slice z h.n 0 n none) (.slice (some ⟨w.heap.size,0,none⟩) n cap):=by
 have hlen:=hv.len
 have hle:n*z<=cap*z:=by omega
 refine ⟨hs.drew.alloc (ty:=e) (fz:=(0,0)) (cs:=vs.toArray++rest) (z:=z) (e:=cap*z) ?_ (by simp;omega) h1 Nl (fun h0=>rfl) (by simp;omega) (by omega), ?_⟩
 ·rw [Array.toList_append,List.take_append_of_le_length (by simp;omega)]
  rw [<-hlen,List.take_length]
  exact hv
 ·simp only [VR]
  exact ⟨_,_,_,Mu.set_self _ _ _,rfl,Nat.le_of_mul_le_mul_right hle hz,hcm,fun _=>by simp,⟨hz,rfl⟩,by simp⟩
structure nz (P:Program) (w:World) (t2:TypeId) (z n:Nat) (y:Value) (news:List Value):Prop where
 kind:(∃e,P.underlying t2=some (.slice e))\/P.underlying t2=some .string
 len:∀w',(Builtin.lenOf y).run P w'= .ok n w'
 fc:∀w',(∀b,w'.cell? b=w.cell? b)->(Builtin.firstCells z n y).run P w'= .ok news.toArray w'
theorem nz.slice {w:World} {t2 e:TypeId} (ht:P.underlying t2=some (.slice e)) {z n c:Nat} {ad:Option Addr} {news:List Value} (hl:news.length=n*z) (h0:ad=none->n=0) (hc:∀a,ad=some a->∀(j:Nat) u,news[j]?=some u->w.cell? (a.add j)=some u):nz P w t2 z n (.slice ad n c) news:=by
 refine ⟨.inl ⟨_,ht⟩,fun w'=>by simp [Builtin.lenOf],fun w' hw=> ?_⟩
 cases ad with
 |none=>
  have:=h0 rfl
  subst this
  have:news=[]:=List.eq_nil_of_length_eq_zero (by simpa using hl)
  subst this
  simp [Builtin.firstCells]
 |some a=>exact run_firstCells_some (P:=P) w' z n a n c news hl (fun j u hj=>by rw [hw];exact hc a rfl j u hj)
theorem nz.string {w:World} {t2:TypeId} (ht:P.underlying t2=some .string) (s:ByteArray):nz P w t2 1 s.size (.string s) (s.data.toList.map fun b=> .int .u8 b.toNat):=by
 refine ⟨.inr ht,fun w'=>by simp [Builtin.lenOf],fun w' _=> ?_⟩
 have hx:(s.extract 0 s.size).data=s.data:=by
  have:(s.extract 0 s.size)=s:=by simp
  rw [this]
 simp only [Builtin.firstCells,hx,Sem.run_pure]
 congr 1
 apply Array.ext'
 simp
section
variable {w:World} {t t2 ty e:TypeId} {i:TypeInfo} {z:Value} {n:Nat} {y:Value} {news:List Value}
theorem DK (A:nz P w t2 i.size n y news) (ht:P.underlying t=some (.slice e)) (hi:P.info? e=some i) (b off sLen sCap:Nat) (h1:∀u∈news,u.oneCell'=true)
  (hroom:sLen+n<=sCap) (hc:∀j,j < news.length->(w.cell? ⟨b,off+sLen*i.size+j,none⟩).isSome=true) (hf:∀j,j < news.length->w.frozen? ⟨b,off+sLen*i.size+j,none⟩=false):
  (Builtin.append_ #[t,t2] ty #[.slice (some ⟨b,off,none⟩) sLen sCap,y]).run P w= .ok (.slice (some ⟨b,off,none⟩) (sLen+n) sCap) (w.setCells b (off+sLen*i.size) news):=by
 have hu:=A.kind
 have hfc:=A.fc w (fun _=>rfl)
 have hst:=run_storeCells_cells (P:=P) b (off+sLen*i.size) news 0 w (by simpa using hc) (by simpa using hf) h1
 simp only [Nat.add_zero] at hst
 have hl:=A.len w
 rcases hu with ⟨e2,hu⟩|hu<;>simp [Builtin.append_,run_underlying ht,run_underlying hu,sizeOf,typeInfo,hi,hl,hroom,hfc,Addr.add_lit,hst]
theorem uX (A:nz P w t2 i.size n y news) (ht:P.underlying t=some (.slice e)) (hi:P.info? e=some i) (hz:i.zero=some z)
  (b:Addr) (sLen sCap:Nat) (olds:List Value) (hlo:olds.length=sLen*i.size) (holds:∀j v,olds[j]?=some v->w.cell? (b.add j)=some v)
  (hg:sCap < sLen+n) (h63:((sLen+n:Nat):Int)<=9223372036854775807) (hfit:Builtin.nextslicecap (sLen+n) sCap*i.bytes<=281474976710656):
  (Builtin.append_ #[t,t2] ty #[.slice (some b) sLen sCap,y]).run P w=
   .ok (.slice (some ⟨w.heap.size,0,none⟩) (sLen+n) (grownCap w (sLen+n) sCap e))
    (w.drew.alloc (.cells (olds.toArray++news.toArray++Builtin.zeroCells z.cells (grownCap w (sLen+n) sCap e - (sLen+n))) e)):=by
 have hu:=A.kind
 have hn:¬(sLen+n<=sCap):=by omega
 have h63':¬(9223372036854775807 < ((sLen:Int)+(n:Int))):=by omega
 have h48':¬(281474976710656 < Builtin.nextslicecap (sLen+n) sCap*i.bytes):=by omega
 have hf:=A.fc w.drew (fun _=>by simp)
 have hfo:=run_firstCells_some (P:=P) w.drew i.size sLen b sLen sCap olds hlo (by simpa using holds)
 have hl:=A.len w
 rcases hu with ⟨e2,hu⟩|hu<;>
 ·simp [Builtin.append_,run_underlying ht,run_underlying hu,sizeOf,typeInfo,zeroValue,hi,hz,hl,hn,h63',h48',Question.forced,hf,hfo,newRow,grownCap]
  congr 2
  apply Array.ext'
  simp [List.append_assoc]
theorem FV (A:nz P w t2 i.size n y news) (ht:P.underlying t=some (.slice e)) (hi:P.info? e=some i) (hz:i.zero=some z)
  (h0:0 < n) (h63:(n:Int)<=9223372036854775807) (h48:n*i.bytes<=281474976710656):
  (Builtin.append_ #[t,t2] ty #[.slice none 0 0,y]).run P w=
   .ok (.slice (some ⟨w.heap.size,0,none⟩) n (grownCap w n 0 e)) (w.drew.alloc (.cells (news.toArray++Builtin.zeroCells z.cells (grownCap w n 0 e - n)) e)):=by
 have hu:=A.kind
 have hn:n≠0:=by omega
 have h63':¬(9223372036854775807 < (n:Int)):=by omega
 have h48':¬(281474976710656 < Builtin.nextslicecap n 0*i.bytes):=by rw [nextslicecap_zero h0];omega
 have hf:=A.fc w.drew (fun _=>by simp)
 have hl:=A.len w
 rcases hu with ⟨e2,hu⟩|hu<;>simp [Builtin.append_,run_underlying ht,run_underlying hu,sizeOf,typeInfo,zeroValue,hi,hz,hl,hn,h63',h48',Question.forced,run_firstCells_none,hf,newRow,grownCap]
end
theorem FW (hs:SR O w0 w m φ h) {t t2 ty e:TypeId} {i:TypeInfo} {zv:Value} (ht:P.underlying t=some (.slice e)) (hi:P.info? e=some i) (hzv:i.zero=some zv) (hzs:zv.cells.size=i.size) (hz:0 < i.size)
  {x v:AV} {x' y':Value} {mm:Nat} {vs:List AV} {news:List Value} {h':Hp O.X} (hx:VR m x x') (A:nz P w t2 i.size mm y' news) (hnews:VRs m vs news) (hnl:news.length=mm*i.size) (hvl:vs.length=mm*i.size) (hone:∀a∈vs,a.one=true) (hv:appA h i.size i.bytes x mm vs=some (v,h')):
  ∃m' φ' w' v',(∀g,g < h.n->m' g=m g)/\h.n<=h'.n/\SR O w0 w' m' φ' h'/\VR m' v v'/\(Builtin.append_ #[t,t2] ty #[x',y']).run P w= .ok v' w':=by
 unfold appA at hv
 by_cases hm0:mm=0
 ·subst hm0
  have hn0:news=[]:=List.eq_nil_of_length_eq_zero (by simpa using hnl)
  subst hn0
  simp only [Nat.beq_refl,cond_true] at hv
  have hfc:=A.fc w (fun _=>rfl)
  have hlw:=A.len w
  have hu:=A.kind
  have same:∀a len cap,len<=cap->(Builtin.append_ #[t,t2] ty #[.slice a len cap,y']).run P w= .ok (.slice a len cap) w:=fun a len cap hlc=>by
   rcases hu with ⟨e2,hu⟩|hu<;>cases a<;>simp [Builtin.append_,run_underlying ht,run_underlying hu,sizeOf,typeInfo,hi,hlw,hfc,hlc,storeCells]
  cases x<;>simp only [] at hv<;>first|(cases hv;done)|skip
  ·cases hv
   refine ⟨m,φ,w,x',fun _ _=>rfl,Nat.le_refl _,hs,hx, ?_⟩
   simp only [VR] at hx
   obtain ⟨p,ad2,c2,_,rfl,hlc,_⟩:=hx
   exact same _ _ _ hlc
  ·cases hv
   refine ⟨m,φ,w,x',fun _ _=>rfl,Nat.le_refl _,hs,hx, ?_⟩
   simp only [VR] at hx
   subst hx
   exact same _ _ _ (Nat.le_refl _)
  ·cases hv
   refine ⟨m,φ,w,x',fun _ _=>rfl,Nat.le_refl _,hs,hx, ?_⟩
   simp only [VR] at hx
   obtain ⟨a,c,rfl,_,_⟩:=hx
   exact same _ _ _ (Nat.zero_le _)
 ·have h1c:=hnews.sG hone
  rw [tY hm0] at hv
  simp only [cond_false] at hv
  have grown:∀(olds:List Value) (r:List AV) (n old:Nat),VRs m r olds->(∀a∈r,a.one=true)->olds.length=n*i.size->old < n+mm->n+mm<=maxLen->∀rest:Array Value,rest=Builtin.zeroCells zv.cells (grownCap w (n+mm) old e - (n+mm))->
    SR O w0 (w.drew.alloc (.cells (olds.toArray++news.toArray++rest) e)) (m.set h.n ⟨w.heap.size,0,grownCap w (n+mm) old e*i.size,i.size⟩) (φ.set h.n fun k=>k=w.heap.size) (h.push (.rw (r++vs)))/\
    VR (m.set h.n ⟨w.heap.size,0,grownCap w (n+mm) old e*i.size,i.size⟩) (.slice i.size h.n 0 (n+mm) none) (.slice (some ⟨w.heap.size,0,none⟩) (n+mm) (grownCap w (n+mm) old e)):=by
   intro olds r n old h1 h2 h3 h4 h5 rest hrest
   have hge:=grownCap_ge w (n+mm) old e
   have hcm:=grownCap_le_maxLen w (n+mm) old e h5
   have e1:olds.toArray++news.toArray=(olds++news).toArray:=by simp
   rw [e1]
   refine yO hs (h1.append hnews) (fun a ha=> ?_) hz ?_ ?_ hcm
   ·rcases List.mem_append.1 ha with ha|ha
    ·exact h2 a ha
    ·exact hone a ha
   ·rw [List.length_append,h3,hnl,Nat.add_mul]
   ·rw [hrest,List.length_append,size_zeroCells,hzs,h3,hnl,<-Nat.add_mul,<-Nat.add_mul]
    congr 1
    omega
  cases x<;>simp only [] at hv<;>first|(cases hv;done)|skip
  ·rename_i z' g off len cap
   simp only [VR] at hx
   obtain ⟨p,ad3,c3,hp,rfl,hlc,PQ,had,⟨hz0,hpz⟩,hcap⟩:=hx
   cases uY:(Nat.beq z' i.size && Nat.ble ((len+mm)*i.bytes) 140737488355328 && Nat.ble (len+mm) maxLen) with
   |false=>rw [uY] at hv;cases hv
   |true=>
    rw [uY] at hv
    simp only [Bool.not_true,cond_false] at hv
    rw [Bool.and_eq_true,Bool.and_eq_true] at uY
    obtain ⟨⟨k1,k2⟩,k3⟩:=uY
    have hzz:=Nat.eq_of_beq_eq_true k1
    have hby:=Nat.le_of_ble_eq_true k2
    have h63:=Nat.le_of_ble_eq_true k3
    have hsmall:len+mm<=9223372036854775807:=by simp only [maxLen] at h63;omega
    subst hzz
    have DL:∀l,h.get g=some (.rw l)->len+mm<=c3->∀(hcov:p.s+off+(len+mm)*i.size<=p.e),
      (Builtin.append_ #[t,t2] ty #[.slice (some ad3) len c3,y']).run P w= .ok (.slice (some ad3) (len+mm) c3) (w.setCells p.b (p.s+off+len*i.size) news):=by
     intro l hg hroom hcov
     have e3:=had (by omega)
     subst e3
     obtain ⟨cs,tyb,fz,b1,b2,b3,b4,b5,b6,b7⟩:=hs.blk g _ hg p hp
     have hlen':len*i.size+mm*i.size=(len+mm)*i.size:=by rw [Nat.add_mul]
     exact DK A ht hi p.b (p.s+off) len c3 h1c hroom (fun j hj=>by
      have:p.s+off+len*i.size+j < cs.size:=by omega
      simp [World.cell?,b1,this]) (fun j hj=>by
      have:=b2.at (i:=p.s+off+len*i.size+j) (by omega)
      simp only [World.frozen?,b1]
      exact this)
    have olds:∀l r,rowOf h g=some l->takeN (len*i.size) off l=some r->∃ov:List Value,VRs m r ov/\ov.length=len*i.size/\(∀a∈r,a.one=true)/\∀(j:Nat) u,ov[j]?=some u->w.cell? (ad3.add j)=some u:=by
     intro l r hr ht
     obtain ⟨hrow,_⟩:=hs.row hp (fJ hr)
     obtain ⟨ov,q1,q2,q3,q4⟩:=qM hrow ht
     refine ⟨ov,q1,q2,q4,fun j u hj=> ?_⟩
     have hc:c3≠0:=by
      intro hc
      have:len=0:=by omega
      subst this
      rw [Nat.zero_mul] at q2
      have:=List.eq_nil_of_length_eq_zero q2
      subst this
      simp at hj
     rw [had hc,je,Nat.add_assoc]
     exact q3 j u hj
    cases cap with
    |some k=>
     simp only at hv hcap
     subst hcap
     cases hroom:Nat.ble (len+mm) c3 with
     |true=>
      rw [hroom] at hv
      simp only [cond_true] at hv
      have hroom:=Nat.le_of_ble_eq_true hroom
      split at hv
      ·rename_i l hg
       obtain ⟨hle,hv⟩:=bM hv
       have hle:=Nat.le_of_ble_eq_true hle
       cases hv
       obtain ⟨cs,tyb,fz,b1,b2,b3,b4,b5,b6,b7⟩:=hs.blk g _ hg p hp
       have hlen':len*i.size+mm*i.size=(len+mm)*i.size:=by rw [Nat.add_mul]
       refine ⟨m,_,_, .slice (some ad3) (len+mm) c3,fun _ _=>rfl,Nat.le_refl _,hs.write hg hp (off:=off+len*i.size) (by omega) hnews hone, ?_, ?_⟩
       ·simp only [VR]
        exact ⟨p,ad3,c3,hp,rfl,hroom,PQ,had,⟨hz0,hpz⟩,rfl⟩
       ·rw [DL l hg hroom (by omega),Nat.add_assoc p.s]
      ·cases hv
     |false=>
      rw [hroom] at hv
      simp only [cond_false] at hv
      have hroom:c3 < len+mm:=by
       rcases Nat.lt_or_ge c3 (len+mm) with h'|h'
       ·exact h'
       ·rw [Nat.ble_eq_true_of_le h'] at hroom;cases hroom
      cases hr:rowOf h g with
      |none=>rw [hr] at hv;cases hv
      |some l=>
       rw [hr] at hv
       simp only at hv
       cases ht2:takeN (len*i.size) off l with
       |none=>rw [ht2] at hv;cases hv
       |some r=>
        rw [ht2] at hv
        cases hv
        obtain ⟨ov,q1,q2,q3,q4⟩:=olds l r hr ht2
        have hrun:=uX (ty:=ty) A ht hi hzv ad3 len c3 ov q2 q4 hroom (by omega) (growslice_fits hroom hby)
        obtain ⟨g1,g2⟩:=grown ov r len c3 q1 q3 q2 hroom h63 _ rfl
        exact ⟨_,_,_,_,gJ _ _ _,Nat.le_succ _,g1,g2,hrun⟩
    |none=>
     simp only at hv hcap
     split at hv
     ·rename_i l hg
      obtain ⟨cs,tyb,fz,b1,b2,b3,b4,b5,b6,b7⟩:=hs.blk g _ hg p hp
      have hlen':len*i.size+mm*i.size=(len+mm)*i.size:=by rw [Nat.add_mul]
      cases hfit:Nat.ble (off+(len+mm)*i.size) l.length with
      |true=>
       rw [hfit] at hv
       cases hv
       have hle:=Nat.le_of_ble_eq_true hfit
       have hroom:len+mm<=c3:=by
        rw [hpz] at hcap
        exact Nat.le_of_mul_le_mul_right (c:=i.size) (by omega) hz
       refine ⟨m,_,_, .slice (some ad3) (len+mm) c3,fun _ _=>rfl,Nat.le_refl _,hs.write hg hp (off:=off+len*i.size) (by omega) hnews hone, ?_, ?_⟩
       ·simp only [VR]
        exact ⟨p,ad3,c3,hp,rfl,hroom,PQ,had,⟨hz0,hpz⟩,hcap⟩
       ·rw [DL l hg hroom (by omega),Nat.add_assoc p.s]
      |false=>
       rw [hfit] at hv
       simp only [cond_false] at hv
       cases ht2:takeN (len*i.size) off l with
       |none=>rw [ht2] at hv;cases hv
       |some r=>
        rw [ht2] at hv
        cases hv
        obtain ⟨ov,q1,q2,q3,q4⟩:=olds l r (by unfold rowOf;rw [hg]) ht2
        obtain ⟨hl2,hr2⟩:=uw ht2
        by_cases hroom:len+mm<=c3
        ·
         have hcov:p.s+off+(len+mm)*i.size<=p.e:=by
          rw [<-hcap,hpz]
          have:=Nat.mul_le_mul_right i.size hroom
          omega
         have hrun:=DL l hg hroom hcov
         have hrlen:r.length=len*i.size:=by rw [<-q1.len,q2]
         obtain ⟨cs',c1',c2',c3'⟩:=lN news (p.s+off+len*i.size) w cs b1 (by omega)
         refine ⟨_,_,_, .slice (some ad3) (len+mm) c3,gJ m _ ⟨p.b,p.s+off,p.e,i.size⟩,Nat.le_succ _,hs.move (c':= .rw (r++vs)) (q:=⟨p.b,p.s+off,p.e,i.size⟩) (S':=fun k=>k=p.b) hg rfl hp (pW ((b6 p.b).2 rfl) news (p.s+off+len*i.size) (Upd.refl _ _)) ?_ rfl (fun k hk=> .inl ((b6 k).2 hk)), ?_,hrun⟩
         ·refine ⟨cs',tyb,fz,c1',c2'.symm▸b2,by show p.e<=_;omega,by rw [List.length_append,hrlen,hvl];show p.s+off+_<=p.e;omega,fun j v hj=> ?_,fun k=>Iff.rfl,fun h0=>b7 (fun q=>h0 (by show i.size=1;omega))⟩
          show∃v',cs'[p.s+off+j]?=some v'/\_
          rw [c3']
          rw [List.getElem?_append,hrlen] at hj
          by_cases hj2:j < len*i.size
          ·rw [if_pos hj2] at hj
           rw [if_neg (by omega)]
           rw [hr2,List.getElem?_take,if_pos hj2,List.getElem?_drop] at hj
           obtain ⟨v',d1,d2,d3⟩:=b5 _ _ hj
           exact ⟨v',by rw [Nat.add_assoc];exact d1,d2.ext (Mu.iK hs.lK _),d3⟩
          ·rw [if_neg hj2] at hj
           have hlt:j - len*i.size < vs.length:=(List.getElem?_eq_some_iff.1 hj).1
           rw [if_pos (by omega),show p.s+off+j - (p.s+off+len*i.size)=j - len*i.size by omega]
           obtain ⟨v',d1,d2⟩:=hnews.get hj
           exact ⟨v',d1,d2.ext (Mu.iK hs.lK _),hone _ (List.mem_of_getElem? hj)⟩
         ·simp only [VR]
          exact ⟨_,ad3,c3,Mu.set_self _ _ _,rfl,hroom,PQ,fun h0=>by rw [had h0];rfl,⟨hz,rfl⟩,by show p.s+off+0+c3*i.size=p.e;rw [<-hcap,hpz];omega⟩
        ·have hroom:c3 < len+mm:=by omega
         have hrun:=uX (ty:=ty) A ht hi hzv ad3 len c3 ov q2 q4 hroom (by omega) (growslice_fits hroom hby)
         have hge:=grownCap_ge w (len+mm) c3 e
         have hcm:=grownCap_le_maxLen w (len+mm) c3 e h63
         have e1:ov.toArray++news.toArray=(ov++news).toArray:=by simp
         have aaf:(ov++news).length=(len+mm)*i.size:=by rw [List.length_append,q2,hnl,Nat.add_mul]
         have hmm:=q1.append hnews
         have hrr:=hmm.len
         have abI:(Builtin.zeroCells zv.cells (grownCap w (len+mm) c3 e - (len+mm))).size=(grownCap w (len+mm) c3 e - (len+mm))*i.size:=by rw [size_zeroCells,hzs]
         have hsum:(len+mm)*i.size+(grownCap w (len+mm) c3 e - (len+mm))*i.size=grownCap w (len+mm) c3 e*i.size:=by rw [<-Nat.add_mul];congr 1;omega
         refine ⟨_,_,_,_,gJ m _ ⟨w.heap.size,0,grownCap w (len+mm) c3 e*i.size,i.size⟩,Nat.le_succ _,hs.move (c':= .rw (r++vs)) (q:=⟨w.heap.size,0,grownCap w (len+mm) c3 e*i.size,i.size⟩) (S':=fun k=>k=w.heap.size) hg rfl hp (((Upd.refl _ w).drew).alloc _) ?_ rfl (fun k hk=> .inr (by omega)), ?_,hrun⟩
         ·rw [e1]
          refine ⟨_,e,(0,0),heap_alloc_new w.drew _,Nl,by simp only [Array.size_append,List.size_toArray,aaf,abI];show grownCap w (len+mm) c3 e*i.size<=_;omega,by rw [<-hrr,aaf];show 0+_<=grownCap w (len+mm) c3 e*i.size;omega,fun j v hj=> ?_,fun k=>Iff.rfl,fun _=>rfl⟩
          obtain ⟨v',d1,d2⟩:=hmm.get hj
          refine ⟨v', ?_,d2.ext (Mu.iK hs.lK _), ?_⟩
          ·show ((ov++news).toArray++_)[0+j]?=_
           rw [Nat.zero_add,Array.getElem?_append_left (by have:=(List.getElem?_eq_some_iff.1 d1).1;simpa using this)]
           simpa using d1
          ·rcases List.mem_append.1 (List.mem_of_getElem? hj) with ha|ha
           ·exact q3 _ ha
           ·exact hone _ ha
         ·simp only [VR]
          exact ⟨_,_,_,Mu.set_self _ _ _,rfl,hge,hcm,fun _=>by simp,⟨hz,rfl⟩,by show 0+0+grownCap w (len+mm) c3 e*i.size=grownCap w (len+mm) c3 e*i.size;omega⟩
     ·cases hv
  ·simp only [VR] at hx
   subst hx
   obtain ⟨hb,hv⟩:=bM hv
   cases hv
   rw [Bool.and_eq_true] at hb
   have hby:=Nat.le_of_ble_eq_true hb.1
   have h63:=Nat.le_of_ble_eq_true hb.2
   have hsmall:mm<=9223372036854775807:=by simp only [maxLen] at h63;omega
   have hrun:=FV (ty:=ty) A ht hi hzv (by omega) (by omega) (by omega)
   have hge:=grownCap_ge w mm 0 e
   obtain ⟨g1,g2⟩:=yO (e:=e) (rest:=Builtin.zeroCells zv.cells (grownCap w mm 0 e - mm)) hs hnews hone hz hnl (by rw [size_zeroCells,hzs,hnl,<-Nat.add_mul];congr 1;omega) (grownCap_le_maxLen w mm 0 e h63)
   exact ⟨_,_,_,_,gJ _ _ _,Nat.le_succ _,g1,g2,hrun⟩
theorem YJ (hs:SR O w0 w m φ h) {t ty e:TypeId} {i:TypeInfo} {zv:Value} (ht:P.underlying t=some (.slice e)) (hi:P.info? e=some i) (hzv:i.zero=some zv) (hzs:zv.cells.size=i.size) (hz:0 < i.size)
  {x y v:AV} {x' y':Value} {mm:Nat} {vs:List AV} {h':Hp O.X} (hx:VR m x x') (hy:VR m y y') (he:elems h i.size y=some (mm,vs)) (hv:appA h i.size i.bytes x mm vs=some (v,h')):
  ∃m' φ' w' v',(∀g,g < h.n->m' g=m g)/\h.n<=h'.n/\SR O w0 w' m' φ' h'/\VR m' v v'/\(Builtin.append_ #[t,t] ty #[x',y']).run P w= .ok v' w':=by
 obtain ⟨ad,c,news,rfl,hmc,_,hnews,hnl,hvl,hone,YK,hcell⟩:=jf hs he hy
 exact FW hs ht hi hzv hzs hz hx (nz.slice ht hnl (fun h=>(YK h).1) (fun a ha=>hcell a ha)) hnews hnl hvl hone hv
theorem Vk (hs:SR O w0 w m φ h) {t t2 ty e:TypeId} {i:TypeInfo} {zv:Value} (ht:P.underlying t=some (.slice e)) (ht2:P.underlying t2=some .string) (hi:P.info? e=some i) (hzv:i.zero=some zv) (hzs:zv.cells.size=i.size) (hz:i.size=1)
  {x v:AV} {x' y':Value} {s:List UInt8} {h':Hp O.X} (hx:VR m x x') (hy:VR m (.str s) y') (hv:appA h i.size i.bytes x s.length (s.map fun b=> .int .u8 b.toNat)=some (v,h')):
  ∃m' φ' w' v',(∀g,g < h.n->m' g=m g)/\h.n<=h'.n/\SR O w0 w' m' φ' h'/\VR m' v v'/\(Builtin.append_ #[t,t2] ty #[x',y']).run P w= .ok v' w':=by
 simp only [VR] at hy
 subst hy
 have A:=nz.string (P:=P) (w:=w) ht2 ⟨s.toArray⟩
 have e1:(⟨s.toArray⟩:ByteArray).size=s.length:=by show s.toArray.size=_;simp
 have e2:((⟨s.toArray⟩:ByteArray).data.toList.map fun b=>Value.int .u8 (b.toNat:Int))=s.map fun b=>Value.int .u8 (b.toNat:Int):=by simp
 rw [e1,e2,<-hz] at A
 refine FW hs ht hi hzv hzs (by omega) hx A ?_ (by simp [hz]) (by simp [hz]) (fun a ha=> ?_) hv
 ·exact VRs.mk (by simp) (fun j a u ha hu=>by
   rw [List.getElem?_map] at ha hu
   cases hj:s[j]? with
   |none=>rw [hj] at ha;cases ha
   |some b=>rw [hj] at ha hu;cases ha;cases hu;simp [VR])
 ·obtain ⟨b,_,rfl⟩:=List.mem_map.1 ha
  rfl
end
variable {P:Program}
theorem sH (l:List AV) (n:Nat):(rep l n).length=n*l.length:=by
 induction n with
 |zero=>simp [rep]
 |succ n ih=>simp [rep,ih,Nat.add_mul];omega
theorem KT (l:List AV):∀(n i:Nat),i < n*l.length->(rep l n)[i]?=l[i % l.length]?
 |0,i,h=>by simp at h
 |n+1,i,h=>by
  simp only [rep]
  rw [List.getElem?_append]
  by_cases h1:i < l.length
  ·rw [if_pos h1,Nat.mod_eq_of_lt h1]
  ·rw [if_neg h1,KT l n (i - l.length) (by rw [Nat.add_mul] at h;omega),<-Nat.mod_eq_sub_mod (by omega)]
theorem sJ {l:List AV} (h:∀a∈l,a.one=true):∀n,∀a∈rep l n,a.one=true
 |0,a,ha=>by cases ha
 |n+1,a,ha=>by
  rcases List.mem_append.1 ha with ha|ha
  ·exact h a ha
  ·exact sJ h n a ha
theorem wP {m:Mu} {l:List AV} {zs:Array Value} (h:VRs m l zs.toList) (n k:Nat) (hk:k=n*zs.size):VRs m (rep l n) ((Array.range k).map (zs[· % zs.size]!)).toList:=by
 have hlen:zs.size=l.length:=by have:=h.len;simpa using this
 subst hk
 refine VRs.mk (by simp [sH,hlen]) (fun i a v ha hv=> ?_)
 have hi:i < n*l.length:=by rw [<-sH];exact (List.getElem?_eq_some_iff.1 ha).1
 rw [KT l n i hi] at ha
 obtain ⟨v',h1,h2⟩:=h.get ha
 have hsz:0 < l.length:=by
  by_cases h0:l.length=0
  ·rw [h0] at hi;omega
  ·omega
 have hm:i % zs.size < zs.size:=Nat.mod_lt _ (by omega)
 simp only [Array.toList_map,Array.toList_range,List.getElem?_map,List.getElem?_range (show i < n*zs.size by rw [hlen];exact hi),Option.map_some,Option.some.injEq] at hv
 subst hv
 rw [getElem!_pos zs _ hm]
 rw [<-hlen,Array.getElem?_toList,Array.getElem?_eq_getElem hm] at h1
 cases h1
 exact h2
section
variable {keep:List Nat} {o:Oper}
theorem uZ {bf:Builtin} {tys:Array TypeId} {xs:List Operand} {ρ:Operand->Value} {w w':World} {r:Value} {S:Sem Value} (ho:o.op= .call {callee:= .builtin bf,args:=xs.toArray,argTypes:=tys})
  (hb:∀c,builtin bf tys o.type c (xs.map ρ).toArray=(do pure (.value (<-S)))) (h2:S.run P w= .ok r w'):(execOp ρ o).run P w= .ok (.value r) w':=by
 simp only [execOp,ho,resolve,invoke,List.map_toArray,Sem.run_bind,Sem.run_pure,Result.andThen_ok,hb,h2]
theorem FX {ty el:TypeId} {x y:Operand} {x' y':Od} {i:TypeInfo} {zv:Value} (ho:o.op= .call {callee:= .builtin .append,args:= #[x,y],argTypes:= #[ty,ty]}) (hu:P.underlying ty=some (.slice el)) (hi:P.info? el=some i) (hz:i.zero=some zv) (hzs:zv.cells.size=i.size) (h0:0 < i.size)
  (hx:odOf keep x=some x') (hy:odOf keep y=some y'):uV P keep o (.append i.size i.bytes x' y'):=by
 intro O w0 w m φ h nt e t ac hs hf v h' hv
 simp only [Ef.ev] at hv
 split at hv
 ·rename_i mm vs he
  obtain ⟨m',φ',w',v',a1,a2,a3,a4,a5⟩:=YJ (ty:=o.type) hs hu hi hz hzs h0 (hf.od hx) (hf.od hy) he hv
  exact ⟨m',φ',w',v',a1,a2,a3,a4, .inl (uZ (xs:=[x,y]) ho (fun _=>rfl) a5)⟩
 ·cases hv
theorem Np {ty tn el:TypeId} {x y:Operand} {x' y':Od} {i:TypeInfo} {zv:Value} (ho:o.op= .call {callee:= .builtin .append,args:= #[x,y],argTypes:= #[ty,tn]}) (hu:P.underlying ty=some (.slice el)) (hn:P.underlying tn=some .string) (hi:P.info? el=some i) (hz:i.zero=some zv) (hzs:zv.cells.size=i.size) (h0:i.size=1)
  (hx:odOf keep x=some x') (hy:odOf keep y=some y'):uV P keep o (.apps i.bytes x' y'):=by
 intro O w0 w m φ h nt e t ac hs hf v h' hv
 have h1:=hf.od hy
 simp only [Ef.ev] at hv
 generalize y'.ev e t=ya at*
 cases ya<;>simp only [] at hv<;>first|(cases hv;done)|skip
 rename_i s
 rw [<-h0] at hv
 obtain ⟨m',φ',w',v',a1,a2,a3,a4,a5⟩:=Vk (ty:=o.type) hs hu hn hi hz hzs h0 (hf.od hx) h1 hv
 exact ⟨m',φ',w',v',a1,a2,a3,a4, .inl (uZ (xs:=[x,y]) ho (fun _=>rfl) a5)⟩
theorem Nq {ty tn el:TypeId} {x y:Operand} {x' y':Od} {i:TypeInfo} {zv:Value} {kn:IntKind} {l:List AV} (ho:o.op= .call {callee:= .builtin .append,args:= #[x,y],argTypes:= #[ty,tn]}) (hu:P.underlying ty=some (.slice el)) (htn:P.underlying tn=some (.int kn)) (hi:P.info? el=some i) (hz:i.zero=some zv) (hzs:zv.cells.size=i.size) (h0:0 < i.size)
  (hl:avOfs zv.cells.toList=some l) (hx:odOf keep x=some x') (hy:odOf keep y=some y'):uV P keep o (.Aq i.size i.bytes l x' y'):=by
 intro O w0 w m φ h nt e t ac hs hf v h' hv
 have h1:=hf.od hx
 have h2:=hf.od hy
 simp only [Ef.ev] at hv
 have fin:=fun (r:Value) (w':World) hr=>uZ (o:=o) (P:=P) (ρ:=ac.eval) (w:=w) (xs:=[x,y]) (r:=r) (w':=w') (S:=Builtin.append_ #[ty,tn] o.type #[ac.eval x,ac.eval y]) ho (fun _=>rfl) hr
 generalize x'.ev e t=xa at*
 generalize y'.ev e t=ya at*
 cases xa<;>(try simp only [] at hv)<;>first|(cases hv;done)|skip
 ·rename_i z' g off n' cap
  cases cap with
  |none=>cases hv
  |some c=>
   try simp only at hv
   cases hn:nOf ya with
   |none=>rw [hn] at hv;cases hv
   |some k=>
    rw [hn] at hv
    try simp only at hv
    obtain ⟨kk,rfl⟩:=jS hn
    simp only [VR] at h2
    cases he:elems h i.size (.slice z' g off n' (some c)) with
    |none=>rw [he] at hv;cases hv
    |some r=>
     obtain ⟨n2,vs⟩:=r
     rw [he] at hv
     try simp only at hv
     obtain ⟨hb,hv⟩:=bM hv
     cases hv
     rw [Bool.and_eq_true,Bool.and_eq_true,Bool.and_eq_true] at hb
     obtain ⟨⟨⟨b0,b1⟩,b2⟩,b3⟩:=hb
     have b0:c < n'+k:=by rwa [Nat.blt_eq] at b0
     have b1:0 < k:=by rwa [Nat.blt_eq] at b1
     have b2:=Nat.le_of_ble_eq_true b2
     have b3:=Nat.le_of_ble_eq_true b3
     obtain ⟨ad,c2,xs,e1,q1,q2,q3,q4,q5,q6,q7,q8⟩:=jf hs he h1
     simp only [VR] at h1
     obtain ⟨p,ad',c',g1,g2,g3,g4,g5,g6,g7⟩:=h1
     subst g7
     rw [g2] at e1
     simp only [Value.slice.injEq] at e1
     obtain ⟨rfl,rfl,rfl⟩:=e1
     have hrd:Rd w i.size (.slice (some ad') n' c') n' xs:=⟨q4,by omega,some ad',c',rfl,g3,g4,(fun q=>by cases q),fun x hx=>by
      cases hx
      exact ⟨fun h0=>by rw [g5 (by omega)],q8 _ rfl⟩⟩
     obtain ⟨w',cap',r1,r2,r3,r4,r5⟩:=jA (P:=P) w ty tn o.type el i zv kn kk i.size i.bytes hu htn hi hz rfl rfl hzs h0 _ n' c' (some ad') rfl xs hrd k b1 b0 b3 b2
     obtain ⟨l1,l2⟩:=gI m hl
     have hrep:=wP l1 k (k*zv.cells.size) rfl
     have hrl:(rep l k).length=k*i.size:=by rw [sH];congr 1;rw [<-hzs,<-l1.len];simp
     have hsz:(Builtin.zeroCells zv.cells k).size=k*i.size:=by rw [size_zeroCells,hzs]
     have hsz2:(Builtin.zeroCells zv.cells (cap' - (n'+k))).size=(cap' - (n'+k))*i.size:=by rw [size_zeroCells,hzs]
     have hmul:cap'*i.size=n'*i.size+k*i.size+(cap' - (n'+k))*i.size:=by rw [<-Nat.add_mul,<-Nat.add_mul];congr 1;omega
     have hall:VRs m (vs++rep l k) (xs++(Builtin.zeroCells zv.cells k).toList):=VRs.append q3 hrep
     have hvl:vs.length=n'*i.size:=q5
     have hbk:mO O w0 w' (m.set h.n ⟨w.heap.size,0,cap'*i.size,i.size⟩) ⟨w.heap.size,0,cap'*i.size,i.size⟩ (fun j=>j=w.heap.size) (.rw (vs++rep l k)):=by
      refine ⟨_,el,(0,0),r2, .inl rfl, ?_, ?_,fun j v hj=> ?_,fun _=>Iff.rfl,fun _=>rfl⟩
      ·simp only [Array.size_append,List.size_toArray,hsz,hsz2];omega
      ·simp only [List.length_append,hrl];omega
      ·obtain ⟨v',d1,d2⟩:=hall.get hj
       refine ⟨v', ?_,d2.ext (Mu.iK hs.lK _), ?_⟩
       ·have hjl:=(List.getElem?_eq_some_iff.1 d1).1
        show (_:Array Value)[0+j]?=some v'
        rw [Nat.zero_add,<-Array.getElem?_toList,Array.toList_append,Array.toList_append,List.getElem?_append_left (by simpa using hjl)]
        exact d1
       ·rcases List.mem_append.1 (List.mem_of_getElem? hj) with hj|hj
        ·exact q6 v hj
        ·exact sJ l2 k v hj
     refine ⟨m.set h.n ⟨w.heap.size,0,cap'*i.size,i.size⟩,_,w', .slice (some ⟨w.heap.size,0,none⟩) (n'+k) cap',gJ _ _ _,Nat.le_succ _,hs.new (c':= .rw (vs++rep l k)) (Upd.toBelow r5) hbk (fun _ j hj=>by rw [hj];exact Nat.le_refl _), ?_, .inl (fin _ _ ?_)⟩
     ·simp only [VR]
      exact ⟨_,_,cap',Mu.set_self _ _ _,rfl,r3,r4,fun _=>by simp,⟨h0,rfl⟩,by simp⟩
     ·rw [g2,h2];exact r1
 simp only [VR] at h1
 cases hn:nOf ya with
 |none=>rw [hn] at hv;cases hv
 |some k=>
  rw [hn] at hv
  simp only at hv
  obtain ⟨kk,rfl⟩:=jS hn
  simp only [VR] at h2
  obtain ⟨hb,hv⟩:=bM hv
  cases hv
  rw [Bool.and_eq_true,Bool.and_eq_true] at hb
  obtain ⟨⟨b1,b2⟩,b3⟩:=hb
  have b2:=Nat.le_of_ble_eq_true b2
  have b3:=Nat.le_of_ble_eq_true b3
  have hk:0 < k:=by
   rcases Nat.eq_zero_or_pos k with e|e
   ·subst e;cases b1
   ·exact e
  have hsm:k<=9223372036854775807:=by simp only [maxLen] at b3;omega
  obtain ⟨l1,l2⟩:=gI m hl
  have hrun:=Lib.run_append_nil_zeros (P:=P) w ty tn o.type el i zv kk kn hu htn hi hz k hk h0 (by omega) (by omega)
  have hrep:=wP l1 k (k*zv.cells.size) rfl
  have hge:=grownCap_ge w k 0 el
  obtain ⟨g1,g2⟩:=yO (e:=el) (z:=i.size) (n:=k) (cap:=grownCap w k 0 el) (rest:=Builtin.zeroCells zv.cells (grownCap w k 0 el - k)) hs hrep (sJ l2 k) h0 (by simp [hzs]) (by
   rw [size_zeroCells,hzs]
   simp only [Array.toList_map,List.length_map,Array.toList_range,List.length_range,hzs,<-Nat.add_mul]
   congr 1;omega) (grownCap_le_maxLen w k 0 el b3)
  refine ⟨_,_,_,_,gJ _ _ _,Nat.le_succ _,g1,g2, .inl (fin _ _ ?_)⟩
  rw [h1,h2,hrun]
  rfl
theorem Vl {O:dH} {w0 w:World} {m:Mu} {φ:Ph} {h:Hp O.X} (hs:SR O w0 w m φ h) {dT sT ty e:TypeId} {i:TypeInfo} (hu:P.underlying dT=some (.slice e)) (hi:P.info? e=some i) {x y v:AV} {x' y':Value} {mm:Nat} {vs:List AV} {h':Hp O.X} (hx:VR m x x') (hy:VR m y y')
  (he:elems h i.size y=some (mm,vs))
  (hv:KR h i.size x mm vs=some (v,h')):
  ∃m' φ' w' v',(∀g,g < h.n->m' g=m g)/\h.n<=h'.n/\SR O w0 w' m' φ' h'/\VR m' v v'/\(Builtin.copy_ #[dT,sT] ty #[x',y']).run P w= .ok v' w':=by
 obtain ⟨ad,c,news,rfl,hmc,_,hnews,hnl,hvl,hone,YK,hcell⟩:=jf hs he hy
 unfold KR at hv
 have src:∀n,n<=mm->(Builtin.firstCells i.size n (.slice ad mm c)).run P w= .ok (news.take (n*i.size)).toArray w:=by
  intro n hn
  cases ad with
  |none=>
   have:mm=0:=(YK rfl).1
   subst this
   have:n=0:=by omega
   subst this
   simp [Builtin.firstCells]
  |some a2=>
   have:=run_loadCells_list (P:=P) w a2 (news.take (n*i.size)) (fun j u hj=>by
    rw [List.getElem?_take] at hj
    split at hj
    ·exact hcell a2 rfl j u hj
    ·cases hj)
   have hl:(news.take (n*i.size)).length=n*i.size:=by rw [List.length_take,hnl];exact Nat.min_eq_left (Nat.mul_le_mul_right _ hn)
   rw [hl] at this
   exact this
 have zero:∀a len cap,min mm len=0->(Builtin.copy_ #[dT,sT] ty #[.slice a len cap, .slice ad mm c]).run P w= .ok (.int .i64 0) w:=by
  intro a len cap h0
  have h0':Nat.min mm len=0:=h0
  have:=src 0 (Nat.zero_le _)
  cases a<;>simp [Builtin.copy_,run_underlying hu,Builtin.lenOf,sizeOf,typeInfo,hi,h0',this,goInt,storeCells]
 cases x<;>simp only [] at hv<;>first|(cases hv;done)|skip
 ·rename_i z' g off len cap
  simp only [VR] at hx
  obtain ⟨p,ad3,c3,hp,rfl,hlc,PQ,had,⟨hz0,hpz⟩,hcap⟩:=hx
  cases hzz:Nat.beq z' i.size with
  |false=>rw [hzz] at hv;cases hv
  |true=>
   rw [hzz] at hv
   simp only [cond_true] at hv
   cases hm0:Nat.beq (min mm len) 0 with
   |true=>
    rw [hm0] at hv
    cases hv
    exact ⟨m,φ,w,_,fun _ _=>rfl,Nat.le_refl _,hs,rfl,zero _ _ _ (Nat.eq_of_beq_eq_true hm0)⟩
   |false=>
    rw [hm0] at hv
    simp only [cond_false] at hv
    have hn0:min mm len≠0:=fun e=>by rw [e] at hm0;cases hm0
    split at hv
    ·rename_i l hg
     obtain ⟨hle,hv⟩:=bM hv
     cases hv
     have hle:=Nat.le_of_ble_eq_true hle
     generalize hN:min mm len=N at*
     have hNm:N<=mm:=by omega
     have hNl:N<=len:=by omega
     have hl2:(vs.take (N*i.size)).length=N*i.size:=by rw [List.length_take,hvl];exact Nat.min_eq_left (Nat.mul_le_mul_right _ hNm)
     have hl3:(news.take (N*i.size)).length=N*i.size:=by rw [List.length_take,hnl];exact Nat.min_eq_left (Nat.mul_le_mul_right _ hNm)
     have XK:∀a∈vs.take (N*i.size),a.one=true:=fun a ha=>hone a (List.mem_of_mem_take ha)
     have hv2:=hnews.take (N*i.size)
     refine ⟨m,_,_, .int .i64 N,fun _ _=>rfl,Nat.le_refl _,hs.write hg hp (by rw [hl2];exact hle) hv2 XK,rfl, ?_⟩
     have e3:=had (by omega)
     subst e3
     obtain ⟨k1,k2⟩:=hs.DJ hg hp hle
     have hst:=run_storeCells_cells (P:=P) p.b (p.s+off) (news.take (N*i.size)) 0 w (fun j hj=>by simpa using k1 j (by omega)) (fun j hj=>by simpa using k2 j (by omega)) (hv2.sG XK)
     have hN':Nat.min mm len=N:=hN
     simp only [Nat.add_zero] at hst
     simp [Builtin.copy_,run_underlying hu,Builtin.lenOf,sizeOf,typeInfo,hi,hN',src N hNm,hst,goInt]
    ·cases hv
 ·simp only [VR] at hx
  subst hx
  cases hv
  exact ⟨m,φ,w,_,fun _ _=>rfl,Nat.le_refl _,hs,rfl,zero _ _ _ (by omega)⟩
theorem Nr {dT sT el:TypeId} {x y:Operand} {x' y':Od} {i:TypeInfo} (ho:o.op= .call {callee:= .builtin .copy,args:= #[x,y],argTypes:= #[dT,sT]}) (hu:P.underlying dT=some (.slice el)) (hi:P.info? el=some i)
  (hx:odOf keep x=some x') (hy:odOf keep y=some y'):uV P keep o (.copy i.size x' y'):=by
 intro O w0 w m φ h nt e t ac hs hf v h' hv
 simp only [Ef.ev] at hv
 split at hv
 ·rename_i mm vs he
  obtain ⟨m',φ',w',v',a1,a2,a3,a4,a5⟩:=Vl (P:=P) (sT:=sT) (ty:=o.type) hs hu hi (hf.od hx) (hf.od hy) he hv
  exact ⟨m',φ',w',v',a1,a2,a3,a4, .inl (uZ (xs:=[x,y]) ho (fun _=>rfl) a5)⟩
 ·cases hv
theorem IY {ty el:TypeId} {x:Operand} {x':Od} {i:TypeInfo} {zv:Value} {l0:List AV} (ho:o.op= .call {callee:= .builtin .clear,args:= #[x],argTypes:= #[ty]}) (hu:P.underlying ty=some (.slice el)) (hi:P.info? el=some i) (hz:i.zero=some zv) (hzs:zv.cells.size=i.size)
  (hl:avOfs zv.cells.toList=some l0) (hx:odOf keep x=some x'):uV P keep o (.clear i.size l0 x'):=by
 intro O w0 w m φ h nt e t ac hs hf v h' hv
 have h1:=hf.od hx
 simp only [Ef.ev] at hv
 have fin:=fun (r:Value) (w':World) hr=>uZ (o:=o) (P:=P) (ρ:=ac.eval) (w:=w) (xs:=[x]) (r:=r) (w':=w') (S:=Builtin.clear_ #[ty] o.type #[ac.eval x]) ho (fun _=>rfl) hr
 generalize x'.ev e t=xa at*
 cases xa<;>simp only [] at hv<;>first|(cases hv;done)|skip
 ·rename_i z' g off len cap
  simp only [VR] at h1
  obtain ⟨p,ad3,c3,hp,hval,hlc,PQ,had,⟨hz0,hpz⟩,hcap⟩:=h1
  cases hzz:Nat.beq z' i.size with
  |false=>rw [hzz] at hv;cases hv
  |true=>
   rw [hzz] at hv
   simp only [cond_true] at hv
   by_cases hm0:len=0
   ·subst hm0
    cases hv
    refine ⟨m,φ,w, .tuple #[],fun _ _=>rfl,Nat.le_refl _,hs,by simp [VR,VRs], .inl (fin _ _ ?_)⟩
    rw [hval]
    simp [Builtin.clear_,run_underlying hu]
   ·rw [tY hm0] at hv
    simp only [cond_false] at hv
    split at hv
    ·rename_i l hg
     obtain ⟨hle,hv⟩:=bM hv
     cases hv
     have hle:=Nat.le_of_ble_eq_true hle
     obtain ⟨l1,l2⟩:=gI m hl
     have hrep:=wP l1 len (len*zv.cells.size) rfl
     have hrl:(rep l0 len).length=len*i.size:=by rw [sH,<-l1.len,Array.length_toList,hzs]
     have e3:=had (by omega)
     subst e3
     obtain ⟨k1,k2⟩:=hs.DJ hg hp hle
     refine ⟨m,_,_, .tuple #[],fun _ _=>rfl,Nat.le_refl _,hs.write hg hp (by rw [hrl];exact hle) hrep (sJ l2 len),by simp [VR,VRs], .inl (fin _ _ ?_)⟩
     have hsz:(Builtin.zeroCells zv.cells len).toList.length=len*i.size:=by rw [Array.length_toList,size_zeroCells,hzs]
     have hst:=run_storeCells_cells (P:=P) p.b (p.s+off) (Builtin.zeroCells zv.cells len).toList 0 w (fun j hj=>by simpa using k1 j (by omega)) (fun j hj=>by simpa using k2 j (by omega)) (hrep.sG (sJ l2 len))
     simp only [Nat.add_zero] at hst
     rw [hval]
     obtain ⟨n',rfl⟩:∃n',len=n'+1:=⟨len - 1,by omega⟩
     simp [Builtin.clear_,run_underlying hu,zeroValue,typeInfo,hi,hz,hst]
     simp [Builtin.zeroCells]
    ·cases hv
 ·simp only [VR] at h1
  cases hv
  refine ⟨m,φ,w, .tuple #[],fun _ _=>rfl,Nat.le_refl _,hs,by simp [VR,VRs], .inl (fin _ _ ?_)⟩
  rw [h1]
  simp [Builtin.clear_,run_underlying hu]
theorem DN {ty el:TypeId} {l c:Operand} {l' c':Od} {i:TypeInfo} {zv:Value} {l0:List AV} (ho:o.op= .makeSlice ty l c) (hu:P.underlying ty=some (.slice el)) (hi:P.info? el=some i) (hz:i.zero=some zv) (hzs:zv.cells.size=i.size) (h0:0 < i.size)
  (hl0:avOfs zv.cells.toList=some l0) (hl:odOf keep l=some l') (hc:odOf keep c=some c'):uV P keep o (.yj i.size i.bytes l0 l' c'):=by
 intro O w0 w m φ h nt e t ac hs hf v h' hv
 have h1:=hf.od hl
 have h2:=hf.od hc
 simp only [Ef.ev] at hv
 split at hv
 ·rename_i n k hn hk
  obtain ⟨q1,e1⟩:=jS hn
  obtain ⟨q2,e2⟩:=jS hk
  rw [e1] at h1
  rw [e2] at h2
  simp only [VR] at h1 h2
  obtain ⟨hb,hv⟩:=bM hv
  cases hv
  rw [Bool.and_eq_true,Bool.and_eq_true] at hb
  obtain ⟨⟨b1,b2⟩,b3⟩:=hb
  have b1:=Nat.le_of_ble_eq_true b1
  have b2:=Nat.le_of_ble_eq_true b2
  have b3:=Nat.le_of_ble_eq_true b3
  have hsm:k<=9223372036854775807:=by simp only [maxLen] at b3;omega
  obtain ⟨l1,l2⟩:=gI m hl0
  have hrep:=wP l1 k (k*zv.cells.size) rfl
  have hrun:=run_make (P:=P) w ty el i zv hu hi hz q1 q2 n k (by omega) (by omega) (by rw [<-Int.natCast_mul];omega) (by omega)
  simp only [Int.toNat_natCast] at hrun
  have hcs:(madeCells zv.cells (k*i.size))=(Array.range (k*zv.cells.size)).map (zv.cells[· % zv.cells.size]!):=by unfold madeCells;rw [hzs]
  have hlen:(rep l0 k).length=k*i.size:=by rw [sH,<-l1.len,Array.length_toList,hzs]
  refine ⟨_,_,_, .slice (some ⟨w.heap.size,0,none⟩) n k,gJ m _ ⟨w.heap.size,0,k*i.size,i.size⟩,Nat.le_succ _,hs.alloc (ty:=el) (fz:=(0,0)) (cs:=madeCells zv.cells (k*i.size)) ?_ (by rw [hlen,size_madeCells];exact Nat.le_refl _) (sJ l2 k) Nl (fun _=>rfl) (by rw [size_madeCells];exact Nat.le_refl _) (by rw [hlen];exact Nat.le_refl _), ?_, .inl ?_⟩
  ·rw [hlen,List.take_of_length_le (by rw [Array.length_toList,size_madeCells];exact Nat.le_refl _),hcs]
   exact hrep
  ·simp only [VR]
   exact ⟨_,_,_,Mu.set_self _ _ _,rfl,b1,b3,fun _=>by simp,⟨h0,rfl⟩,rfl⟩
  ·simp [execOp,ho,h1,h2,hrun]
 ·cases hv
theorem Ns (m:Mu) (l:List UInt8):VRs m (l.map fun b=>AV.int .u8 b.toNat) (l.map fun b=>Value.int .u8 b.toNat):=by
 induction l with
 |nil=>simp [VRs]
 |cons b l ih=>
  simp only [List.map_cons,VRs]
  exact ⟨_,_,rfl,rfl,ih⟩
theorem PR {s d el:TypeId} {x:Operand} {x':Od} (ho:o.op= .convert s d x) (hs':P.underlying s=some .string) (hd:P.underlying d=some (.slice el)) (he:P.underlying el=some (.int .u8)) (hx:odOf keep x=some x'):uV P keep o (.s2b x'):=by
 intro O w0 w m φ h nt e t ac hs hf v h' hv
 have h1:=hf.od hx
 simp only [Ef.ev] at hv
 split at hv
 ·rename_i l hl
  rw [hl] at h1
  simp only [VR] at h1
  obtain ⟨hb,hv⟩:=bM hv
  cases hv
  have hb:=Nat.le_of_ble_eq_true hb
  have hrun:=run_bytes_of_string (P:=P) w s d el ⟨l.toArray⟩ hs' hd he
  have hsz:(⟨l.toArray⟩:ByteArray).size=l.length:=by show l.toArray.size=_;simp
  rw [hsz] at hrun
  have hge:=grownCap_ge w l.length 0 el
  have hcm:=grownCap_le_maxLen w l.length 0 el hb
  generalize grownCap w l.length 0 el=cap at*
  have hrow:bytesRow ⟨l.toArray⟩ cap=(l.map fun b=>Value.int .u8 b.toNat).toArray++Array.replicate (cap - l.length) (.int .u8 0):=by
   unfold bytesRow;rw [hsz];simp
  have Vm:(bytesRow ⟨l.toArray⟩ cap).size=cap:=by rw [hrow];simp;omega
  have hv1:=Ns m l
  rw [Vm] at hrun
  refine ⟨_,_,_, .slice (some ⟨w.heap.size,0,none⟩) l.length cap,gJ m _ ⟨w.heap.size,0,cap,1⟩,Nat.le_succ _,hs.drew.alloc (ty:=el) (fz:=(cap,cap+1)) (cs:=bytesRow ⟨l.toArray⟩ cap) (z:=1) (e:=cap) ?_ (by rw [Vm];simpa using hge) (fun a ha=> ?_) (.inr (by rw [Vm];exact Nat.le_refl _)) (fun h0=>absurd rfl h0) (by rw [Vm];exact Nat.le_refl _) (by simpa using hge), ?_, .inl ?_⟩
  ·rw [hrow]
   simp only [Array.toList_append,List.length_map]
   rw [List.take_append_of_le_length (by simp),List.take_of_length_le (by simp)]
   exact hv1
  ·obtain ⟨b,_,rfl⟩:=List.mem_map.1 ha;rfl
  ·simp only [VR]
   exact ⟨_,_,_,Mu.set_self _ _ _,rfl,hge,hcm,fun _=>by simp,⟨Nat.zero_lt_one,rfl⟩,by show 0+0+cap*1=cap;omega⟩
  ·simp [execOp,ho,h1,hrun]
 ·cases hv
theorem Nu {s el:TypeId} {x:Operand} {x':Od} (ho:o.op= .convert s s x) (hs':P.underlying s=some (.slice el)) (he:P.underlying el=some (.int .u8)) (hx:odOf keep x=some x'):uV P keep o (.mark x'):=by
 intro O w0 w m φ h nt e t ac hs hf v h' hv
 have h1:=hf.od hx
 simp only [Ef.ev] at hv
 split at hv
 ·rename_i z g off len cap hl
  rw [hl] at h1
  by_cases hl0:len=0
  ·subst hl0;cases hv
  rw [tY hl0] at hv
  simp only [cond_false] at hv
  cases hz1':Nat.beq z 1 with
  |false=>rw [hz1'] at hv;cases hv
  |true=>
  rw [hz1'] at hv
  simp only [cond_true] at hv
  have hz1:=Nat.eq_of_beq_eq_true hz1'
  clear hz1'
  split at hv
  ·rename_i l hg
   cases hv
   have h1':=h1
   simp only [VR] at h1
   obtain ⟨p,ad,c,hp,hval,hlc,hcm,had,⟨hz0,hpz⟩,hcap⟩:=h1
   have blk:=hs.blk g _ hg p hp
   obtain ⟨cs,ty,fz,b1,b2,b3,b4,b5,b6,b7⟩:=blk
   have frz:∀(b n:Nat),(w.shape? b).map (·.2)=some n->(w.freeze ⟨b,n,none⟩ 1).heap.size=w.heap.size/\(w.freeze ⟨b,n,none⟩ 1).os=w.os/\(w.freeze ⟨b,n,none⟩ 1).tape=w.tape/\(w.freeze ⟨b,n,none⟩ 1).output=w.output/\
     (∀k,k≠b->(w.freeze ⟨b,n,none⟩ 1).heap[k]?=w.heap[k]?)/\∀cs ty fz,w.heap[b]?=some (.cells cs ty fz)->(w.freeze ⟨b,n,none⟩ 1).heap[b]?=some (.cells cs ty (if fz.1==fz.2 then (n,n+1) else (min fz.1 n,max fz.2 (n+1)))):=by
    intro b n _
    unfold World.freeze
    rw [if_neg (by decide)]
    refine ⟨by simp,rfl,rfl,rfl,fun k hk=> ?_,fun cs ty fz hb=> ?_⟩
    ·show (w.heap.modify b _)[k]?=_
     rw [Array.getElem?_modify,if_neg (Ne.symm hk)]
    ·show (w.heap.modify b _)[b]?=_
     rw [Array.getElem?_modify,if_pos rfl,hb]
     rfl
   have hc:c≠0:=by omega
   ·have e3:=had hc
    subst e3
    have hsh:w.shape? p.b=some (ty,cs.size):=by simp [World.shape?,b1]
    obtain ⟨f1,f2,f3,f4,f5,f6⟩:=frz p.b cs.size (by rw [hsh];rfl)
    refine ⟨m,_,w.freeze ⟨p.b,cs.size,none⟩ 1,_,fun _ _=>rfl,Nat.le_refl _,hs.upd (c':= .rw l) (S':=fun k=>k=p.b) hg rfl hp (w':=w.freeze ⟨p.b,cs.size,none⟩ 1) ⟨f2,f3,f4,by omega,fun k hk hn=>f5 k (fun e=>hn ((b6 k).2 e))⟩ ?_ rfl (fun k hk=> .inl ((b6 k).2 hk)),h1', .inl ?_⟩
    ·refine ⟨cs,ty,_,f6 cs ty fz b1, ?_,b3,b4,b5,fun k=>Iff.rfl,fun h0=>by omega⟩
     split
     ·exact .inr (Nat.le_refl _)
     ·rename_i hne
      have hne:fz.1≠fz.2:=by simpa using hne
      rcases b2 with b2|b2
      ·exact absurd b2 hne
      ·exact .inr (by simp;omega)
    ·have hrun:(convert s s (.slice (some ⟨p.b,p.s+off,none⟩) len c)).run P w= .ok (.slice (some ⟨p.b,p.s+off,none⟩) len c) (w.freeze ⟨p.b,cs.size,none⟩ 1):=by
      unfold convert
      simp only [Sem.run_bind,run_underlying hs',Result.andThen_ok]
      simp [run_underlying he,markStringish,hsh]
     rw [hval]
     simp [execOp,ho,hval,hrun]
  ·cases hv
 ·cases hv
end
variable {P:Program}
theorem FY (off:Nat):∀(vs:List Value) (k:Nat) (cells:Array Value),off+k+vs.length<=cells.size->
  ((vs.zipIdx k).foldl (fun (cs:Array Value) (p:Value×Nat)=>cs.setIfInBounds (off+p.2) p.1) cells).toList=cells.toList.take (off+k)++(vs++cells.toList.drop (off+k+vs.length))
 |[],k,cells,_=>by simp
 |v::vs,k,cells,h=>by
  simp only [List.length_cons] at h
  rw [List.zipIdx_cons,List.foldl_cons,FY off vs (k+1) _ (by simp;omega)]
  have hlt:off+k < cells.toList.length:=by simpa using (by omega:off+k < cells.size)
  rw [Array.toList_setIfInBounds]
  rw [show off+(k+1)=off+k+1 by omega]
  rw [List.take_succ_eq_append_getElem (by simpa using hlt),List.take_set_of_le (Nat.le_refl _),List.getElem_set_self]
  rw [List.drop_set_of_lt (by omega)]
  simp only [List.length_cons,List.append_assoc,List.cons_append,List.nil_append]
  rw [show off+k+1+vs.length=off+k+(vs.length+1) by omega]
theorem yl {m:Mu} {place:Nat->Option (Nat×Nat)}:∀{Vo:List (Nat×Value)} {abs:List (Nat×Nat×AV)} {cs:Array Value} {l r:List AV},Vo.length=abs.length->
  (∀(i:Nat) a b,Vo[i]?=some a->abs[i]?=some b->place a.1=some (b.1,b.2.1)/\VR m b.2.2 a.2)->VRs m l cs.toList->fillA l abs=some r->∃cs',Instr.fill place cs Vo=some cs'/\VRs m r cs'.toList
 |[],[],cs,l,r,_,_,hl,h=>by cases h;exact ⟨cs,rfl,hl⟩
 |[],_::_,_,_,_,hlen,_,_,_=>by cases hlen
 |_::_,[],_,_,_,hlen,_,_,_=>by cases hlen
 |(i,v)::Vo,(off,size,a)::abs,cs,l,r,hlen,hall,hl,h=>by
  obtain ⟨hp,hv⟩:=hall 0 (i,v) (off,size,a) (by simp) (by simp)
  simp only at hp hv
  simp only [fillA] at h
  cases hc:cellsOf a with
  |none=>rw [hc] at h;cases h
  |some vs=>
   rw [hc] at h
   simp only at h
   cases hb:(Nat.beq vs.length size && Nat.ble (off+size) l.length) with
   |false=>rw [hb] at h;cases h
   |true=>
    rw [hb] at h
    simp only [cond_true] at h
    rw [Bool.and_eq_true] at hb
    have hsz:=Nat.eq_of_beq_eq_true hb.1
    have hle:=Nat.le_of_ble_eq_true hb.2
    have hvs:=pX hc hv
    have hvl:v.cells.size=size:=by rw [<-hsz,<-hvs.len];simp
    have hcl:cs.size=l.length:=by have:=hl.len;simpa using this
    have hfold:=FY off v.cells.toList 0 cs (by simp;omega)
    have YL:(v.cells.zipIdx.foldl (fun (cs:Array Value) (p:Value×Nat)=>cs.setIfInBounds (off+p.2) p.1) cs).toList=cs.toList.take off++(v.cells.toList++cs.toList.drop (off+size)):=by
     rw [<-Array.foldl_toList,Array.toList_zipIdx]
     rw [hfold]
     simp [hvl]
    have hl':VRs m (l.take off++vs++l.drop (off+size)) (v.cells.zipIdx.foldl (fun (cs:Array Value) (p:Value×Nat)=>cs.setIfInBounds (off+p.2) p.1) cs).toList:=by
     rw [YL,List.append_assoc]
     exact (hl.take off).append (hvs.append (hl.drop _))
    obtain ⟨cs',h1,h2⟩:=yl (by simpa using hlen) (fun i a b ha hb=>hall (i+1) a b (by simpa using ha) (by simpa using hb)) hl' h
    refine ⟨cs', ?_,h2⟩
    simp only [Instr.fill,hp]
    rw [if_neg (by simp;omega)]
    exact h1
def partsOf (place:Nat->Option (Nat×Nat)) (keep:List Nat):List (Nat×Operand)->Option (List (Nat×Nat×Od))
 |[]=>some []
 |(i,x)::r=>match place i,odOf keep x,partsOf place keep r with
  |some (off,size),some a,some b=>some ((off,size,a)::b)
  |_,_,_=>none
theorem ve {m:Mu} {keep:List Nat} {nt:Nat} {e:En} {t:List AV} {a:Act} (f:FR m keep nt e t a) {place:Nat->Option (Nat×Nat)}:∀{xs:List (Nat×Operand)} {os:List (Nat×Nat×Od)},partsOf place keep xs=some os->
  (xs.map fun p=>(p.1,a.eval p.2)).length=(os.map fun p=>(p.1,p.2.1,p.2.2.ev e t)).length/\
  ∀(i:Nat) x y,(xs.map fun p=>(p.1,a.eval p.2))[i]?=some x->(os.map fun p=>(p.1,p.2.1,p.2.2.ev e t))[i]?=some y->place x.1=some (y.1,y.2.1)/\VR m y.2.2 x.2
 |[],os,h=>by cases h;simp
 |(i,x)::xs,os,h=>by
  simp only [partsOf] at h
  split at h
  ·rename_i off size b bs h1 h2 h3
   cases h
   obtain ⟨k1,k2⟩:=ve f h3
   refine ⟨by simpa using k1,fun j u v hu hv=> ?_⟩
   cases j with
   |zero=>simp at hu hv;subst hu;subst hv;exact ⟨h1,f.od h2⟩
   |succ j=>exact k2 j u v (by simpa using hu) (by simpa using hv)
  ·cases h
section
variable {keep:List Nat} {o:Oper}
def placesOf (P:Program) (fs:Array Field) (i:Nat):Option (Nat×Nat):=
 match fs[i]? with
 |some f=>match P.info? f.type with|some j=>some (f.offset,j.size)|none=>none
 |none=>none
theorem FZ {α β:Type} {f:α->Sem β} {g:α->β} {w:World}:∀{l:List α},(∀x∈l,(f x).run P w= .ok (g x) w)->(l.mapM f).run P w= .ok (l.map g) w
 |[],_=>by simp
 |x::l,h=>by
  rw [List.mapM_cons]
  have h1:=h x (by simp)
  have h2:=FZ (l:=l) (fun y hy=>h y (by simp [hy]))
  simp [h1,h2]
theorem YM {ty:TypeId} {parts:Array (Nat×Operand)} {ps:List (Nat×Nat×Od)} {fs:Array Field} {i:TypeInfo} {z:Value} {l0:List AV} (ho:o.op= .build ty parts) (hu:P.underlying ty=some (.struct fs)) (hi:P.info? ty=some i) (hz:i.zero=some z) (hl:avOfs z.cells.toList=some l0)
  (hall:∀f∈fs.toList,(P.info? f.type).isSome=true) (hp:partsOf (placesOf P fs) keep parts.toList=some ps):fV P keep o (.bld l0 ps):=by
 intro O w0 w m φ h nt e t ac hs hf v hv
 simp only [Mv.ev] at hv
 cases hfl:fillA l0 (ps.map fun p=>(p.1,p.2.1,p.2.2.ev e t)) with
 |none=>rw [hfl] at hv;cases hv
 |some r=>
  rw [hfl] at hv
  cases hv
  obtain ⟨k1,k2⟩:=ve hf hp
  obtain ⟨cs',h1,h2⟩:=yl k1 k2 (gI m hl).1 hfl
  refine ⟨.agg cs',by simp only [VR];exact ⟨cs'.toList,by simp,h2⟩, ?_⟩
  have hpl:(fs.mapM fun f=>(do pure (f.offset,<-sizeOf f.type):Sem (Nat×Nat))).run P w= .ok (fs.map fun f=>(f.offset,P.cellsOf f.type)) w:=by
   rw [Array.mapM_eq_mapM_toList]
   have:=FZ (P:=P) (w:=w) (l:=fs.toList) (f:=fun f=>(do pure (f.offset,<-sizeOf f.type):Sem (Nat×Nat))) (g:=fun f=>(f.offset,P.cellsOf f.type)) (fun f hf=>by
    obtain ⟨j,hj⟩:=Option.isSome_iff_exists.1 (hall f hf)
    simp [sizeOf,typeInfo,hj,Program.cellsOf])
   rw [Sem.run_map,this]
   simp only [Result.andThen_ok,Result.ok.injEq,and_true]
   apply Array.ext'
   simp
  have hpe:(fun i=>(fs.map fun f=>(f.offset,P.cellsOf f.type))[i]?)=placesOf P fs:=by
   funext i
   unfold placesOf
   rw [Array.getElem?_map]
   cases hfi:fs[i]? with
   |none=>rfl
   |some f=>
    obtain ⟨j,hj⟩:=Option.isSome_iff_exists.1 (hall f (by
     obtain ⟨hh,rfl⟩:=Array.getElem?_eq_some_iff.1 hfi
     exact Array.getElem_mem_toList hh))
    simp [hj,Program.cellsOf]
  have hpm:(parts.map fun p=>(p.1,ac.eval p.2)).toList=parts.toList.map fun p=>(p.1,ac.eval p.2):=by simp
  have hrun:(Instr.build ty (parts.map fun p=>(p.1,ac.eval p.2))).run P w= .ok (.agg cs') w:=by
   unfold Instr.build
   simp only [Sem.run_bind,zeroValue,typeInfo,run_program,Result.andThen_ok,hi,hz,Sem.run_pure,run_underlying hu,hpl]
   rw [hpe,hpm,h1]
   rfl
  have:execOp ac.eval o=(do pure (.value (<-Instr.build ty (parts.map fun p=>(p.1,ac.eval p.2))))):=by simp only [execOp,ho]
  rw [this]
  simp [hrun]
theorem F5 {ty el:TypeId} {len:Nat} {parts:Array (Nat×Operand)} {ps:List (Nat×Nat×Od)} {i:TypeInfo} {z:Value} {l0:List AV} (ho:o.op= .buildSlice ty len parts) (hu:P.underlying ty=some (.slice el)) (hi:P.info? el=some i) (hz:i.zero=some z) (hzs:z.cells.size=i.size) (h0:0 < i.size) (hbig:len*i.size<=16777216)
  (hl:avOfs z.cells.toList=some l0) (hp:partsOf (fun k=>some (k*i.size,i.size)) keep parts.toList=some ps):uV P keep o (.aF i.size len l0 ps):=by
 intro O w0 w m φ h nt e t ac hs hf v h' hv
 simp only [Ef.ev] at hv
 cases hfl:fillA (rep l0 len) (ps.map fun p=>(p.1,p.2.1,p.2.2.ev e t)) with
 |none=>rw [hfl] at hv;cases hv
 |some r=>
  rw [hfl] at hv
  simp only at hv
  obtain ⟨hb,hv⟩:=bM hv
  cases hv
  rw [Bool.and_eq_true,Bool.and_eq_true] at hb
  obtain ⟨⟨b1,b2⟩,b3⟩:=hb
  have b2:=Nat.eq_of_beq_eq_true b2
  have b3:=Nat.le_of_ble_eq_true b3
  obtain ⟨k1,k2⟩:=ve hf hp
  have hrep:=wP (gI m hl).1 len (len*z.cells.size) rfl
  obtain ⟨cs',h1,h2⟩:=yl (place:=fun k=>some (k*i.size,i.size)) k1 k2 hrep hfl
  have hcs:cs'.size=len*i.size:=by rw [<-b2,<-h2.len];simp
  refine ⟨_,_,_, .slice (some ⟨w.heap.size,0,none⟩) len len,gJ m _ ⟨w.heap.size,0,len*i.size,i.size⟩,Nat.le_succ _,hs.alloc (ty:=el) (fz:=(0,0)) (cs:=cs') ?_ (by omega) (kY b1) Nl (fun _=>rfl) (by omega) (by omega), ?_, .inl ?_⟩
  ·rw [List.take_of_length_le (by rw [Array.length_toList];omega)]
   exact h2
  ·simp only [VR]
   exact ⟨_,_,_,Mu.set_self _ _ _,rfl,Nat.le_refl _,b3,fun _=>by simp,⟨h0,rfl⟩,rfl⟩
  ·have hpm:(parts.map fun p=>(p.1,ac.eval p.2)).toList=parts.toList.map fun p=>(p.1,ac.eval p.2):=by simp
   have hrun:(Instr.buildSlice ty len (parts.map fun p=>(p.1,ac.eval p.2))).run P w= .ok (.slice (some ⟨w.heap.size,0,none⟩) len len) (w.alloc (.cells cs' el)):=by
    unfold Instr.buildSlice
    simp only [Sem.run_bind,run_underlying hu,Result.andThen_ok,sizeOf,typeInfo,run_program,hi,Sem.run_pure]
    rw [if_neg (by omega)]
    by_cases hz0:len*i.size=0
    ·have hlen0:len=0:=by rcases Nat.mul_eq_zero.1 hz0 with h|h;exact h;omega
     subst hlen0
     have hz1:∀f:Nat->Value,(Array.range 0).map f= #[]:=fun f=>by apply Array.ext';simp
     simp only [Nat.zero_mul,if_true,Sem.run_bind,Sem.run_pure,Result.andThen_ok,hz1,hpm]
     simp only [Nat.zero_mul,hz1] at h1
     rw [h1]
     simp [newRow]
    ·rw [if_neg hz0]
     simp only [Sem.run_bind,zeroValue,typeInfo,run_program,Result.andThen_ok,hi,hz,Sem.run_pure,hpm]
     rw [hzs] at h1
     rw [hzs,h1]
     simp [newRow]
   have:execOp ac.eval o=(do pure (.value (<-Instr.buildSlice ty len (parts.map fun p=>(p.1,ac.eval p.2))))):=by simp only [execOp,ho]
   rw [this]
   simp [hrun]
end
end Am
end Go.Proofs.YtbnkdnlfdofepaaGreat
