/- Bytes compared: bytes.Compare as a function of the table. Kv, plainly: rising lists, what is put, joined; blocks and tables as bytes. No program. Kv, plainly: rows that are joined, head by head; what is told of many rows. No program. slices.Clone and octet.Put of bytes: what they hand back is owned. slices.Chunk of entries: what it hands to a loop. -/
import Derived.Test.YtbnkdnlfdofepaaGreatMF
import Derived.Test.YtbnkdnlfdofepaaGreatMG
import Derived.Lib.BytesEntry
import Derived.Lib.Bytealg
import Derived.Test.YtbnkdnlfdofepaaGreatMM
import Derived.Test.YtbnkdnlfdofepaaGreatMH
import Derived.Test.YtbnkdnlfdofepaaGreatME
import Derived.Test.YtbnkdnlfdofepaaGreatMI
import Derived.RangeFuncNested
import Derived.RangeFuncBox
import Derived.Deep.Onto
import Derived.Deep.AppendLies
import Derived.Deep.LoopGhost
import Derived.RangeFuncBound
import Derived.RangeFuncCalls
import Derived.RangeFuncLeaves
import Derived.Shelf.Abstract
import Derived.Shelf.RegionOpen
import Derived.WalkKit
import Derived.OwnWalkIn
import Derived.TacticsInMore
import Derived.LoopNIn
import Derived.LoopIn
import Derived.Maps.AppendAt
set_option linter.unusedVariables false
set_option linter.unusedSimpArgs false
namespace Go.Proofs.YtbnkdnlfdofepaaGreat
namespace Am
open Go.RowKit
set_option maxRecDepth 100000
theorem RX (ad bd:Option Addr) (n m c d:Nat) (xs ys:List Int) (w:World) (hx:xs.length=n) (hy:ys.length=m) (ha:∀a,ad=some a->∀j x,xs[j]?=some x->w.cell? (a.add j)=some (.int .u8 x)) (hb:∀a,bd=some a->∀j x,ys[j]?=some x->w.cell? (a.add j)=some (.int .u8 x))
  (hna:ad=none->n=0) (hnb:bd=none->m=0):
  Calls Tryz.prog 170 #[.slice ad n c, .slice bd m d] w fun e w'=>e= .returned (.int .i64 (Lib.compareBytes (xs.map fun x=>x.toNat.toUInt8) (ys.map fun x=>x.toNat.toUInt8)))/\w'=w:=by
 have run:∀(ad:Option Addr) (n c:Nat) (xs:List Int),xs.length=n->(∀a,ad=some a->∀j x,xs[j]?=some x->w.cell? (a.add j)=some (.int .u8 x))->(ad=none->n=0)->
   (Extern.Bytes.bytesOf (.slice ad n c)).run Tryz.prog w= .ok ⟨(xs.map fun x=>x.toNat.toUInt8).toArray⟩ w:=by
  intro ad n c xs hx ha hn
  cases ad with
  |none=>
   have hx0:xs=[]:=List.eq_nil_of_length_eq_zero (by rw [hx];exact hn rfl)
   subst hx0
   rfl
  |some a=>
   subst hx
   have:=Lib.run_loadBytesX (P:=Tryz.prog) (w:=w) xs a .empty (ha a rfl)
   show (Extern.Bytes.loadBytes a xs.length .empty).run Tryz.prog w=_
   rw [this]
   simp
   rfl
 have r1:=run ad n c xs hx ha hna
 have r2:=run bd m d ys hy hb hnb
 have r3:(Extern.BytealgCompare.compare #[.slice ad n c, .slice bd m d]).run Tryz.prog w= .ok (.int .i64 (Lib.compareBytes (xs.map fun x=>x.toNat.toUInt8) (ys.map fun x=>x.toNat.toUInt8))) w:=by
  change Sem.run Tryz.prog (do pure (goInt (Extern.BytealgCompare.cmp (<-Extern.Bytes.bytesOf (.slice ad n c)) (<-Extern.Bytes.bytesOf (.slice bd m d))))) w=_
  simp only [Sem.run_bind,r1,r2,Sem.run_pure,Result.andThen]
  rw [Lib.cmp_eq]
  rfl
 clear r1 r2 run ha hb hna hnb hx hy
 go_enter Tryz.func170,Tryz.ntmps170
 go_wp2
 rw [run_callFunc_extern Tryz.func181 (by kernel_rfl) (by kernel_rfl) (by kernel_rfl) (e:=Extern.BytealgCompare.compare) (by kernel_rfl),r3]
 simp only [Result.andThen]
 rw [Oper.upon_value]
 go_wp2
 go_ret
 exact ⟨rfl,rfl⟩
noncomputable def n_bcmp {X:Type}:Fn X:=fun _ args h=>match args with
 |[a,b]=>(match elems h 1 a with
  |some (_,la)=>(match elems h 1 b with
   |some (_,lb)=>(match bytesOf la with
    |some x=>(match bytesOf lb with|some y=> .ret (.int .i64 (Lib.compareBytes x y)) h|none=> .bad)
    |none=> .bad)
   |none=> .bad)
  |none=> .bad)
 |_=> .bad
theorem RY {O:dH}:jD Tryz.prog O 170 n_bcmp:=by
 refine ⟨by kernel_rfl,fun {D} hD args h hb {w0 w m φ args'} hs hv=> ?_⟩
 match args,hb,hv with
 |[a,b],hb,hv=>
  obtain ⟨v,u,rfl,h1,h2⟩:=Y5 hv
  simp only [n_bcmp] at hb ⊢
  cases ea:elems h 1 a with
  |none=>rw [ea] at hb;exact absurd rfl hb
  |some ra=>
  obtain ⟨n,la⟩:=ra
  cases eb:elems h 1 b with
  |none=>rw [ea,eb] at hb;exact absurd rfl hb
  |some rb=>
  obtain ⟨m',lb⟩:=rb
  cases ba:bytesOf la with
  |none=>rw [ea,eb] at hb;simp only [ba] at hb;exact absurd rfl hb
  |some x=>
  cases bb:bytesOf lb with
  |none=>rw [ea,eb] at hb;simp only [ba,bb] at hb;exact absurd rfl hb
  |some y=>
  simp only [ba,bb]
  obtain ⟨ad,c,vs,rfl,_,_,q3,q4,_,_,q7,q8⟩:=jf hs ea h1
  obtain ⟨bd,d,us,rfl,_,_,p3,p4,_,_,p7,p8⟩:=jf hs eb h2
  obtain ⟨xs,rfl,rfl⟩:=pR ba q3
  obtain ⟨ys,rfl,rfl⟩:=pR bb p3
  rw [List.length_map] at q4 p4
  refine (RX ad bd n m' c d xs ys w (by omega) (by omega) (fun a ha j x hj=>q8 a ha j _ (by rw [List.getElem?_map,hj];rfl)) (fun a ha j x hj=>p8 a ha j _ (by rw [List.getElem?_map,hj];rfl)) (fun q=>(q7 q).1) (fun q=>(p7 q).1)).mono fun e w' hd=> ?_
  obtain ⟨rfl,rfl⟩:=hd
  exact ⟨m,φ,_,fun _ _=>rfl,Nat.le_refl _,hs,by simp only [VR],rfl⟩
section
variable {α:Type} {key:α->Bs}
theorem ay.tl {x:α} {l:List α} (h:ay key (x::l)):ay key l:=(List.pairwise_cons.1 h).2
theorem ay.hd {x:α} {l:List α} (h:ay key (x::l)):∀y∈l,bl (key x) (key y)=true:=(List.pairwise_cons.1 h).1
theorem dw (x:α) (l:List α) (s:Bs):aO key (x::l) s=if key x=s then some x else aO key l s:=by
 unfold aO
 rw [List.find?_cons]
 by_cases e:key x=s
 ·rw [if_pos e,show (key x==s)=true by simp [e]]
 ·rw [if_neg e,show (key x==s)=false from beq_false_of_ne e]
theorem ay.ext:∀{a b:List α},ay key a->ay key b->(∀s,aO key a s=aO key b s)->a=b
 |[],[],_,_,_=>rfl
 |[],y::b,_,_,H=>by have:=H (key y);rw [dw,if_pos rfl] at this;cases this
 |x::a,[],_,_,H=>by have:=H (key x);rw [dw,if_pos rfl] at this;cases this
 |x::a,y::b,ha,hb,H=>by
  have lt:∀{x y:α} {a b:List α},ay key (x::a)->ay key (y::b)->(∀s,aO key (x::a) s=aO key (y::b) s)->bl (key x) (key y)=false:=fun {x y a b} ha hb H=>by
   cases hc:bl (key x) (key y) with
   |false=>rfl
   |true=>
    have h1:=H (key x)
    rw [dw,if_pos rfl] at h1
    obtain ⟨h2,_⟩:=get_mem h1.symm
    rcases List.mem_cons.1 h2 with rfl|h2
    ·rw [dZ] at hc;cases hc
    ·have:=iH (ay.hd hb _ h2);rw [hc] at this;cases this
  have hk:key x=key y:=lQ (lt ha hb H) (lt hb ha fun s=>(H s).symm)
  have hx:=H (key x)
  rw [dw,dw,if_pos rfl,if_pos hk.symm] at hx
  cases hx
  rw [ay.ext (ay.tl ha) (ay.tl hb)]
  intro s
  have:=H s
  rw [dw,dw] at this
  by_cases e:key x=s
  ·subst e
   have n1:∀{c:List α},ay key (x::c)->aO key c (key x)=none:=fun {c} hc=>get_none.2 fun z hz q=>by have:=ay.hd hc z hz;rw [q,dZ] at this;cases this
   rw [n1 ha,n1 hb]
  ·rwa [if_neg e,if_neg e] at this
theorem ay.nil:ay key []:=List.Pairwise.nil
theorem H8 {l:List α} {p:α->Bool} {q:Bs->Bool} (hp:∀x,p x=q (key x)) (s:Bs):aO key (l.filter p) s=if q s then aO key l s else none:=by
 induction l with
 |nil=>simp [aO]
 |cons x l ih=>
  rw [List.filter_cons,dw]
  cases hx:p x with
  |true=>
   rw [if_pos rfl,dw,ih]
   by_cases e:key x=s
   ·subst e;rw [<-hp,hx];simp
   ·rw [if_neg e,if_neg e]
  |false=>
   rw [if_neg (by simp),ih]
   by_cases e:key x=s
   ·subst e;rw [<-hp,hx];simp
   ·rw [if_neg e]
end
def EM.own (e:EM):EM:=⟨e.key,if e.gone then [] else e.val,e.gone⟩
theorem L8 (e:EM):e.own.key=e.key:=rfl
theorem Wx (e:EM):e.own.own=e.own:=by cases e with|mk k v g=>cases g<;>rfl
def vX (e:EM):Prop:=e.gone=true->e.val=[]
theorem L9 {e:EM} (h:vX e):e.own=e:=by
 cases e with
 |mk k v g=>
  cases g with
  |true=>have h:=h rfl;simp only at h;subst h;rfl
  |false=>rfl
theorem Wy (e:EM):vX e.own:=by cases e with|mk k v g=>cases g<;>simp [vX,EM.own]
abbrev dI (l:List EM):Prop:=ay EM.key l
def dB (acc r:List EM):List EM:=r.foldl (fun a e=>dC EM.key a e.own) acc
theorem tu (acc:List EM) (e:EM) (r:List EM):dB acc (e::r)=dB (dC EM.key acc e.own) r:=rfl
theorem RZ (acc r s:List EM):dB acc (r++s)=dB (dB acc r) s:=List.foldl_append
theorem jk:∀{r acc:List EM},dI acc->dI (dB acc r)
 |[],_,h=>h
 |e::r,acc,h=>jk (r:=r) (h.put _)
theorem lW:∀{r acc:List EM} {x:EM},x∈dB acc r->x∈acc\/∃e∈r,x=e.own
 |[],_,_,h=> .inl h
 |e::r,acc,x,h=>by
  rcases lW (r:=r) h with h|⟨y,h1,h2⟩
  ·rcases iM.1 h with rfl|⟨h,_⟩
   ·exact .inr ⟨e,List.mem_cons_self ..,rfl⟩
   ·exact .inl h
  ·exact .inr ⟨y,List.mem_cons_of_mem _ h1,h2⟩
theorem zG (l:List EM) (f:EM):(dC EM.key l f).length<=l.length+1:=by
 unfold dC
 have h1:∀l:List EM,(l.filter fun x=>bl x.key f.key).length+(l.filter fun x=>bl f.key x.key).length<=l.length:=by
  intro l
  induction l with
  |nil=>exact Nat.le_refl _
  |cons x l ih=>
   simp only [List.filter_cons,List.length_cons]
   cases h:bl x.key f.key with
   |true=>simp [iH h];omega
   |false=>
    cases h2:bl f.key x.key with
    |true=>simp;omega
    |false=>simp;omega
 have:=h1 l
 simp
 omega
theorem vY:∀{r acc:List EM},(dB acc r).length<=acc.length+r.length
 |[],_=>Nat.le_refl _
 |e::r,acc=>by
  have h1:=vY (r:=r) (acc:=dC EM.key acc e.own)
  have h2:=zG acc e.own
  rw [tu,List.length_cons]
  omega
theorem lX:∀{r acc:List EM} (s:Bs),dI acc->dI r->aO EM.key (dB acc r) s=match aO EM.key r s with|some e=>some e.own|none=>aO EM.key acc s
 |[],_,_,_,_=>rfl
 |e::r,acc,s,h,hr=>by
  rw [tu,lX s (h.put _) (ay.tl hr),dw,h.get_put,L8]
  by_cases q:e.key=s
  ·subst q
   have:aO EM.key r e.key=none:=get_none.2 fun z hz q=>by have:=ay.hd hr z hz;rw [q,dZ] at this;cases this
   rw [this,if_pos rfl,if_pos rfl]
  ·rw [if_neg q,if_neg (fun h=>q h.symm)]
def joinL:List (List EM)->List EM
 |[]=>[]
 |r::rs=>dB (joinL rs) r
theorem dL:∀rs:List (List EM),dI (joinL rs)
 |[]=> .nil
 |_::rs=>jk (dL rs)
theorem xu:∀{rs:List (List EM)},∀e∈joinL rs,vX e
 |[],e,h=>by cases h
 |r::rs,e,h=>by
  rcases lW h with h|⟨x,_,rfl⟩
  ·exact xu e h
  ·exact Wy x
def aY (l:List EM):List EM:=l.filter fun e=> !e.gone
def EN (from' to:List UInt8) (e:EM):Bool:= !bl e.key from' && (decide (to=[])||bl e.key to)
def jl (from' to:List UInt8) (l:List EM):List EM:=l.filter (EN from' to)
theorem rF {a b:List UInt8} {l:List EM} (h:dI l):dI (jl a b l):=h.filter _
theorem zH (a b:List UInt8) (l:List EM) (s:Bs):aO EM.key (jl a b l) s=if (!bl s a && (decide (b=[])||bl s b)) then aO EM.key l s else none:=
 H8 (q:=fun s=> !bl s a && (decide (b=[])||bl s b)) (fun _=>rfl) s
theorem CW (a b:List UInt8):∀{rs:List (List EM)},(∀r∈rs,dI r)->joinL (rs.map (jl a b))=jl a b (joinL rs)
 |[],_=>rfl
 |r::rs,h=>by
  have ih:=CW a b fun x hx=>h x (List.mem_cons_of_mem _ hx)
  have hr:=h r (List.mem_cons_self ..)
  rw [List.map_cons,joinL,joinL,ih]
  refine ay.ext (jk (rF (dL rs))) (rF (jk (dL rs))) fun s=> ?_
  rw [lX s (rF (dL rs)) (rF hr),zH,zH,zH,lX s (dL rs) hr]
  cases (!bl s a && (decide (b=[])||bl s b))<;>cases aO EM.key r s<;>rfl
def shF:List UInt8->List UInt8->Nat
 |x::a,y::b=>if x=y then shF a b+1 else 0
 |_,_=>0
theorem EO:∀a b:List UInt8,shF a b<=a.length/\shF a b<=b.length/\a.take (shF a b)=b.take (shF a b)
 |[],b=>by simp [shF]
 |x::a,[]=>by simp [shF]
 |x::a,y::b=>by
  have ih:=EO a b
  unfold shF
  by_cases e:x=y
  ·subst e;rw [if_pos rfl];simp;omega
  ·rw [if_neg e];simp
theorem JF:∀{a b:List UInt8} {n:Nat},n < a.length->n < b.length->a.take n=b.take n->(a[n]?=b[n]?->n+1<=shF a b)/\(a[n]?≠b[n]?->shF a b=n)
 |x::a,y::b,0,_,_,_=>by
  unfold shF
  by_cases e:x=y
  ·rw [if_pos e];exact ⟨fun _=>by omega,fun q=>absurd (congrArg some e) q⟩
  ·rw [if_neg e];exact ⟨fun q=>absurd (Option.some.inj q) e,fun _=>rfl⟩
 |x::a,y::b,n+1,h1,h2,h3=>by
  simp at h1 h2 h3
  obtain ⟨rfl,h3⟩:=h3
  have ih:=JF h1 h2 h3
  unfold shF
  rw [if_pos rfl]
  simp only [List.getElem?_cons_succ]
  exact ⟨fun e=>by have:=ih.1 e;omega,fun e=>by rw [ih.2 e]⟩
 |[],_,n,h,_,_=>by simp at h
 |_::_,[],n,_,h,_=>by simp at h
theorem Mc {a b:List UInt8} {n:Nat} (h:a.take n=b.take n) (hn:n<=a.length) (hm:n<=b.length) (he:¬(n < a.length/\n < b.length)):shF a b=n:=by
 have h1:=EO a b
 rcases Nat.lt_or_ge (shF a b) n with h2|h2
 ·have h4:=JF (a:=a) (b:=b) (n:=shF a b) (by omega) (by omega) h1.2.2
  have h5:a[shF a b]?=b[shF a b]?:=by
   have:=congrArg (fun l=>l[shF a b]?) h
   simpa [List.getElem?_take_of_lt h2] using this
  have:=h4.1 h5
  omega
 ·omega
def kP (last:List UInt8) (e:EM):List UInt8:=
 UInt8.ofNat (shF last e.key)::UInt8.ofNat (e.key.length - shF last e.key)::(e.key.drop (shF last e.key)++(if e.gone then [0] else 1::(encB e.val.length 2++e.val)))
theorem H9 (last:List UInt8) (e:EM):0 < (kP last e).length/\(kP last e).length<=5+e.key.length+e.v.length:=by
 unfold kP EM.v
 cases e.gone<;>simp [aB]<;>omega
def lastK:List UInt8->List EM->List UInt8
 |s,[]=>s
 |_,e::l=>lastK e.key l
theorem zI (e:EM):∀(s:List UInt8) (l:List EM),lastK s (l++[e])=e.key
 |_,[]=>rfl
 |_,x::l=>zI e x.key l
def blkG:Nat->List UInt8->List EM->List UInt8
 |_,_,[]=>[]
 |i,s,e::l=>kP (if i % 4=0 then [] else s) e++blkG (i+1) e.key l
theorem CX (e:EM):∀(i:Nat) (s:List UInt8) (l:List EM),blkG i s (l++[e])=blkG i s l++kP (if (i+l.length) % 4=0 then [] else lastK s l) e
 |i,s,[]=>by simp [blkG,lastK]
 |i,s,x::l=>by
  simp only [List.cons_append,blkG,lastK,CX e (i+1) x.key l,List.append_assoc,List.length_cons]
  rw [show i+1+l.length=i+(l.length+1) by omega]
def begG:Nat->Nat->List UInt8->List EM->List Nat
 |_,_,_,[]=>[]
 |a,i,s,e::l=>(if i % 4=0 then [a] else [])++begG (a+(kP (if i % 4=0 then [] else s) e).length) (i+1) e.key l
theorem CY (e:EM):∀(a i:Nat) (s:List UInt8) (l:List EM),begG a i s (l++[e])=begG a i s l++(if (i+l.length) % 4=0 then [a+(blkG i s l).length] else [])
 |a,i,s,[]=>by simp [begG,blkG]
 |a,i,s,x::l=>by
  simp only [List.cons_append,begG,blkG,CY e _ (i+1) x.key l,List.append_assoc,List.length_cons,List.length_append]
  rw [show i+1+l.length=i+(l.length+1) by omega,Nat.add_assoc]
def dQ (l:List EM):List UInt8:=blkG 0 [] l
def dX (l:List EM):List Nat:=begG 0 0 [] l
def dV (l:List EM):List UInt8:=dQ l++(dX l).flatMap (fun a=>encB a 2)++[UInt8.ofNat (dX l).length]
theorem take_snoc {α:Type} {l:List α} {i:Nat} {e:α} (he:l[i]?=some e):l.take (i+1)=l.take i++[e]:=by
 rw [List.take_add_one,he];rfl
theorem zJ {α:Type} {l:List α} {i:Nat} {e:α} (he:l[i]?=some e):(l.take i).length=i:=by
 have:=(List.getElem?_eq_some_iff.1 he).1
 rw [List.length_take];omega
def gV (l:List EM) (i:Nat):List UInt8:=if i % 4=0 then [] else lastK [] (l.take i)
theorem zK {l:List EM} {i:Nat} {e:EM} (he:l[i]?=some e):dQ (l.take (i+1))=dQ (l.take i)++kP (gV l i) e:=by
 unfold dQ gV
 rw [take_snoc he,CX,zJ he,Nat.zero_add]
theorem JG {l:List EM} {i:Nat} {e:EM} (he:l[i]?=some e):dX (l.take (i+1))=dX (l.take i)++(if i % 4=0 then [(dQ (l.take i)).length] else []):=by
 unfold dX dQ
 rw [take_snoc he,CY,zJ he,Nat.zero_add,Nat.zero_add]
theorem qm {l:List EM} {i:Nat} {e:EM} (he:l[i]?=some e):lastK [] (l.take (i+1))=e.key:=by rw [take_snoc he,zI]
theorem vZ:∀{l:List EM} (i:Nat),i<=l.length->(dX (l.take i)).length=(i+3) / 4
 |l,0,_=>by simp [dX,begG]
 |l,i+1,h=>by
  have he:l[i]?=some l[i]:=List.getElem?_eq_getElem (by omega)
  rw [JG he,List.length_append,vZ i (by omega)]
  split
  ·simp;omega
  ·simp;omega
theorem WA {l:List EM} {i:Nat} {e:EM} (he:l[i]?=some e):∃rest,dQ l=dQ (l.take i)++(kP (gV l i) e++rest):=by
 have h:∀(m:List EM) (i:Nat) (s:List UInt8) (l:List EM),∃r,blkG i s (l++m)=blkG i s l++r:=by
  intro m i s l
  induction l generalizing i s with
  |nil=>exact ⟨_,by simp only [List.nil_append,blkG];rfl⟩
  |cons x l ih=>
   obtain ⟨r,hr⟩:=ih (i+1) x.key
   exact ⟨r,by simp only [List.cons_append,blkG,hr,List.append_assoc]⟩
 obtain ⟨r,hr⟩:=h (l.drop (i+1)) 0 [] (l.take (i+1))
 rw [List.take_append_drop] at hr
 refine ⟨r, ?_⟩
 have:=zK he
 unfold dQ at*
 rw [hr,this,List.append_assoc]
theorem EP {K:Nat} {l:List EM} (h:∀e∈l,e.key.length+e.v.length<=K):∀i,i<=l.length->(dQ (l.take i)).length<=(K+5)*i
 |0,_=>by simp [dQ,blkG]
 |i+1,hi=>by
  have he:l[i]?=some l[i]:=List.getElem?_eq_getElem (by omega)
  have h1:=EP h i (by omega)
  have h2:=(H9 (gV l i) l[i]).2
  have h3:=h l[i] (List.getElem_mem _)
  rw [zK he,List.length_append,Nat.mul_succ]
  omega
theorem Md:∀{l:List EM} (i:Nat),i<=l.length->∀a∈dX (l.take i),a<=(dQ (l.take i)).length
 |l,0,_,a,ha=>by simp [dX,begG] at ha
 |l,i+1,hi,a,ha=>by
  have he:l[i]?=some l[i]:=List.getElem?_eq_getElem (by omega)
  rw [JG he] at ha
  rw [zK he,List.length_append]
  rcases List.mem_append.1 ha with ha|ha
  ·have:=Md i (by omega) a ha;omega
  ·split at ha
   ·simp at ha;omega
   ·cases ha
theorem zL (l:List EM):(dV l).length=(dQ l).length+2*((l.length+3) / 4)+1:=by
 have h1:=vZ l.length (Nat.le_refl _)
 rw [List.take_length] at h1
 have h2:∀m:List Nat,(m.flatMap fun a=>encB a 2).length=2*m.length:=by
  intro m
  induction m with
  |nil=>rfl
  |cons a m ih=>rw [List.flatMap_cons,List.length_append,ih,aB,List.length_cons];omega
 unfold dV
 rw [List.length_append,List.length_append,h2,h1]
 rfl
def bZ (l:List EM) (i:Nat):List EM:=(l.drop (8*i)).take 8
def bu (l:List EM):Nat:=(l.length+7) / 8
def uo (l:List EM) (k:Nat):List (List UInt8):=(List.range k).map fun i=>dV (bZ l i)
def iF (l:List EM):List (List UInt8):=uo l (bu l)
def gq (bs:List (List UInt8)):List UInt8:=bs.flatMap fun x=>encB x.length 4
def rG:List UInt8:=[109,97,114,105]
def dM (l:List EM):List UInt8:=(iF l).flatten++encB (bu l) 2++gq (iF l)++encB (iF l).flatten.length 4++rG
theorem tC (l:List EM) (k:Nat):(uo l k).length=k:=by simp [uo]
theorem WE (l:List EM) (k:Nat):uo l (k+1)=uo l k++[dV (bZ l k)]:=by simp [uo,List.range_succ]
theorem Ol (l:List EM):∀k,((List.range k).map (bZ l)).flatten=l.take (8*k)
 |0=>by simp
 |k+1=>by
  rw [List.range_succ,List.map_append,List.flatten_append,Ol l k]
  simp only [List.map_cons,List.map_nil,List.flatten_cons,List.flatten_nil,List.append_nil,bZ]
  rw [Nat.mul_succ,List.take_add]
theorem Om (l:List EM) (k:Nat):l.take (8*(k+1))=l.take (8*k)++bZ l k:=by
 rw [Nat.mul_succ,List.take_add];rfl
theorem yG (bs:List (List UInt8)):(gq bs).length=4*bs.length:=by
 unfold gq
 induction bs with
 |nil=>rfl
 |cons a m ih=>rw [List.flatMap_cons,List.length_append,ih,aB,List.length_cons];omega
theorem wo (l:List EM) (i:Nat):(bZ l i).length=min 8 (l.length - 8*i):=by simp [bZ]
theorem wu {l:List EM} {i:Nat} {e:EM} (h:e∈bZ l i):e∈l:=List.mem_of_mem_drop (List.mem_of_mem_take h)
theorem ER {K:Nat} {l:List EM} (h:∀e∈l,e.key.length+e.v.length<=K) (i:Nat):(dV (bZ l i)).length<=(K+6)*8:=by
 have h1:=EP (fun e he=>h e (wu he)) (bZ l i).length (Nat.le_refl _)
 rw [List.take_length] at h1
 have h2:=wo l i
 rw [zL]
 have h3:(K+5)*(bZ l i).length<=(K+5)*8:=Nat.mul_le_mul_left _ (by omega)
 omega
theorem ES {K:Nat} {l:List EM} (h:∀e∈l,e.key.length+e.v.length<=K):∀k,(uo l k).flatten.length<=(K+6)*8*k
 |0=>by simp [uo]
 |k+1=>by
  have h1:=ES h k
  have h2:=ER h k
  rw [WE,List.flatten_append,List.length_append,Nat.mul_succ]
  simp only [List.flatten_cons,List.flatten_nil,List.append_nil]
  omega
theorem ET {K:Nat} {l:List EM} (h:∀e∈l,e.key.length+e.v.length<=K):(dM l).length<=(K+7)*8*bu l+10:=by
 have h1:=ES h (bu l)
 unfold dM
 simp only [List.length_append,aB,yG]
 unfold iF
 rw [tC]
 have h2:(K+7)*8*bu l=(K+6)*8*bu l+8*bu l:=by rw [show (K+7)*8=(K+6)*8+8 by omega,Nat.add_mul]
 simp only [rG,List.length_cons,List.length_nil]
 omega
structure jX (l:List EM):Prop where
 pos:1<=l.length
 most:l.length<=65535
 ris:dI l
 ok:∀e∈l,okE e=true
 nrm:∀e∈l,vX e
set_option maxRecDepth 10000
def tellL:List (List EM)->Bs->Option EM
 |[],_=>none
 |r::rs,s=>match aO EM.key r s with|some e=>some e|none=>tellL rs s
theorem tH:∀{rs:List (List EM)} (s:Bs),(∀r∈rs,dI r)->aO EM.key (joinL rs) s=(tellL rs s).map EM.own
 |[],_,_=>rfl
 |r::rs,s,h=>by
  rw [joinL,lX s (dL rs) (h r (List.mem_cons_self ..)),tH s fun x hx=>h x (List.mem_cons_of_mem _ hx),tellL]
  cases aO EM.key r s<;>rfl
theorem CZ:∀{rs:List (List EM)} {s:Bs} {e:EM},tellL rs s=some e->∃r∈rs,aO EM.key r s=some e
 |[],_,_,h=>by cases h
 |r::rs,s,e,h=>by
  rw [tellL] at h
  cases hg:aO EM.key r s with
  |some x=>rw [hg] at h;exact ⟨r,List.mem_cons_self ..,by rw [hg];exact h⟩
  |none=>
   rw [hg] at h
   obtain ⟨q,h1,h2⟩:=CZ (rs:=rs) h
   exact ⟨q,List.mem_cons_of_mem _ h1,h2⟩
def stepB (a:Option EM) (r:List EM):Option EM:=match r with
 |[]=>a
 |x::_=>match a with
  |none=>some x
  |some y=>if bl x.key y.key then some x else some y
def gW (rs:List (List EM)):Option EM:=rs.foldl stepB none
theorem Me {rs:List (List EM)} {i:Nat} {r:List EM} (h:rs[i]?=some r):gW (rs.take (i+1))=stepB (gW (rs.take i)) r:=by
 unfold gW
 rw [List.take_add_one,h,List.foldl_append]
 rfl
def Si (rs:List (List EM)):Option EM->Prop
 |none=>∀r∈rs,r=[]
 |some x=>∃(j:Nat) (r:List EM),rs[j]?=some (x::r)/\(∀(i:Nat) (y:EM) (t:List EM),rs[i]?=some (y::t)->bl y.key x.key=false)/\∀(i:Nat) (y:EM) (t:List EM),i < j->rs[i]?=some (y::t)->y.key≠x.key
theorem EU (rs:List (List EM)):Si rs (gW rs):=by
 have key:∀i,i<=rs.length->Si (rs.take i) (gW (rs.take i)):=by
  intro i
  induction i with
  |zero=>intro _;simp [gW,Si]
  |succ i ih=>
   intro hi
   have ih:=ih (by omega)
   have hr:rs[i]?=some rs[i]:=List.getElem?_eq_getElem (by omega)
   rw [Me hr]
   have hl:(rs.take i).length=i:=by rw [List.length_take];omega
   have e1:∀k,k < i->(rs.take (i+1))[k]?=(rs.take i)[k]?:=fun k hk=>by rw [List.getElem?_take_of_lt (by omega),List.getElem?_take_of_lt hk]
   have e2:(rs.take (i+1))[i]?=some rs[i]:=by rw [List.getElem?_take_of_lt (by omega),hr]
   have e3:∀{k:Nat} {q:List EM},(rs.take (i+1))[k]?=some q->k < i\/k=i:=fun {k q} h=>by
    have:=(List.getElem?_eq_some_iff.1 h).1
    rw [List.length_take] at this;omega
   generalize rs[i]=row at*
   generalize gW (rs.take i)=a at*
   cases row with
   |nil=>
    unfold stepB
    cases a with
    |none=>
     intro r hr
     obtain ⟨k,hk⟩:=List.mem_iff_getElem?.1 hr
     rcases e3 hk with h|h
     ·rw [e1 k h] at hk;exact ih r (List.mem_of_getElem? hk)
     ·subst h;rw [e2] at hk;cases hk;rfl
    |some x=>
     obtain ⟨j,r,h1,h2,h3⟩:=ih
     have hj:=(List.getElem?_eq_some_iff.1 h1).1
     refine ⟨j,r,by rw [e1 j (by omega)];exact h1,fun k y t hk=> ?_,fun k y t hkj hk=>h3 k y t hkj (by rw [<-e1 k (by omega)];exact hk)⟩
     rcases e3 hk with h|h
     ·rw [e1 k h] at hk;exact h2 k y t hk
     ·subst h;rw [e2] at hk;cases hk
   |cons x r=>
    cases a with
    |none=>
     refine ⟨i,r,e2,fun k y t hk=> ?_,fun k y t hkj hk=> ?_⟩
     ·rcases e3 hk with h|h
      ·rw [e1 k h] at hk;have:=ih _ (List.mem_of_getElem? hk);cases this
      ·subst h;rw [e2] at hk;cases hk;exact dZ _
     ·rw [e1 k hkj] at hk;have:=ih _ (List.mem_of_getElem? hk);cases this
    |some z=>
     obtain ⟨j,q,h1,h2,h3⟩:=ih
     have hj:=(List.getElem?_eq_some_iff.1 h1).1
     have hst:stepB (some z) (x::r)=if bl x.key z.key=true then some x else some z:=rfl
     rw [hst]
     cases hc:bl x.key z.key with
     |true=>
      rw [if_pos rfl]
      have lt:∀(k:Nat) (y:EM) (t:List EM),(rs.take i)[k]?=some (y::t)->bl x.key y.key=true:=fun k y t hk=>by
       cases hz:bl z.key y.key with
       |true=>exact jT hc hz
       |false=>rw [lQ (h2 k y t hk) hz];exact hc
      refine ⟨i,r,e2,fun k y t hk=> ?_,fun k y t hkj hk=> ?_⟩
      ·rcases e3 hk with h|h
       ·rw [e1 k h] at hk;exact iH (lt k y t hk)
       ·subst h;rw [e2] at hk;cases hk;exact dZ _
      ·rw [e1 k hkj] at hk;exact (qB (lt k y t hk)).symm
     |false=>
      rw [if_neg (by simp)]
      refine ⟨j,q,by rw [e1 j (by omega)];exact h1,fun k y t hk=> ?_,fun k y t hkj hk=>h3 k y t hkj (by rw [<-e1 k (by omega)];exact hk)⟩
      rcases e3 hk with h|h
      ·rw [e1 k h] at hk;exact h2 k y t hk
      ·subst h;rw [e2] at hk;cases hk;exact hc
 have:=key rs.length (Nat.le_refl _)
 rwa [List.take_length] at this
def jm (k:Bs):List EM->List EM
 |[]=>[]
 |x::r=>if bl k x.key then x::r else r
theorem wz {k:Bs} {x:EM} {r:List EM} (h:bl k x.key=true):jm k (x::r)=x::r:=by rw [jm,if_pos h]
theorem wB {k:Bs} {x:EM} {r:List EM} (h:bl k x.key=false):jm k (x::r)=r:=by rw [jm,if_neg (by simp [h])]
theorem C9 {k:Bs} {r:List EM} (h:dI r):dI (jm k r):=by
 cases r with
 |nil=>exact h
 |cons x r=>
  cases hc:bl k x.key with
  |true=>rw [wz hc];exact h
  |false=>rw [wB hc];exact ay.tl h
theorem join_none {rs:List (List EM)} (h:gW rs=none):joinL rs=[]:=by
 have hb:=EU rs
 rw [h] at hb
 have:∀{rs:List (List EM)},(∀r∈rs,r=[])->joinL rs=[]:=by
  intro rs
  induction rs with
  |nil=>intro _;rfl
  |cons r rs ih=>intro h;rw [joinL,ih fun x hx=>h x (List.mem_cons_of_mem _ hx),h r (List.mem_cons_self ..)];rfl
 exact this hb
theorem Dc {k:Bs}:∀{rs:List (List EM)},(∀r∈rs,dI r)->(∀r∈rs,∀y t,r=y::t->bl y.key k=false)->∀s,s≠k->tellL (rs.map (jm k)) s=tellL rs s
 |[],_,_,_,_=>rfl
 |r::rs,hr,hk,s,hs=>by
  have ih:=Dc (k:=k) (rs:=rs) (fun x hx=>hr x (List.mem_cons_of_mem _ hx)) (fun x hx=>hk x (List.mem_cons_of_mem _ hx)) s hs
  have e:aO EM.key (jm k r) s=aO EM.key r s:=by
   cases r with
   |nil=>rfl
   |cons y t=>
    cases hc:bl k y.key with
    |true=>rw [wz hc]
    |false=>
     rw [wB hc,dw,if_neg]
     intro e
     exact hs (by rw [<-e];exact lQ (hk _ (List.mem_cons_self ..) y t rfl) hc)
  rw [List.map_cons,tellL,tellL,e,ih]
theorem WG {k:Bs} {r:List EM} (hr:dI r) (hk:∀y t,r=y::t->bl y.key k=false):∀e∈jm k r,bl k e.key=true:=by
 cases r with
 |nil=>intro e h;cases h
 |cons y t=>
  intro e h
  cases hc:bl k y.key with
  |true=>
   rw [wz hc] at h
   rcases List.mem_cons.1 h with rfl|h
   ·exact hc
   ·exact jT hc (ay.hd hr e h)
  |false=>
   rw [wB hc] at h
   rw [lQ hc (hk y t rfl)]
   exact ay.hd hr e h
theorem join_some {rs:List (List EM)} {x:EM} (hr:∀r∈rs,dI r) (h:gW rs=some x):joinL rs=x.own::joinL (rs.map (jm x.key)):=by
 have hb:=EU rs
 rw [h] at hb
 obtain ⟨j,r,h1,h2,h3⟩:=hb
 have hk:∀q∈rs,∀y t,q=y::t->bl y.key x.key=false:=fun q hq y t e=>by
  subst e
  obtain ⟨i,hi⟩:=List.mem_iff_getElem?.1 hq
  exact h2 i y t hi
 have hrp:∀q∈rs.map (jm x.key),dI q:=fun q hq=>by
  obtain ⟨p,hp,rfl⟩:=List.mem_map.1 hq
  exact C9 (hr p hp)
 have ht:tellL rs x.key=some x:=by
  have:∀{rs:List (List EM)} {j:Nat},(∀r∈rs,dI r)->rs[j]?=some (x::r)->(∀(i:Nat) (y:EM) (t:List EM),rs[i]?=some (y::t)->bl y.key x.key=false)->(∀(i:Nat) (y:EM) (t:List EM),i < j->rs[i]?=some (y::t)->y.key≠x.key)->tellL rs x.key=some x:=by
   intro rs
   induction rs with
   |nil=>intro j _ h;simp at h
   |cons q rs ih=>
    intro j hr h1 h2 h3
    cases j with
    |zero=>
     simp at h1;subst h1
     rw [tellL,dw,if_pos rfl]
    |succ j=>
     have hq:aO EM.key q x.key=none:=by
      cases q with
      |nil=>rfl
      |cons y t=>
       have a1:=h2 0 y t rfl
       have a2:=h3 0 y t (by omega) rfl
       rw [get_none]
       intro z hz e
       rcases List.mem_cons.1 hz with rfl|hz
       ·exact a2 e
       ·have:=ay.hd (hr _ (List.mem_cons_self ..)) z hz
        rw [e,a1] at this;cases this
     rw [tellL,hq]
     exact ih (fun z hz=>hr z (List.mem_cons_of_mem _ hz)) (by simpa using h1) (fun i y t hi=>h2 (i+1) y t (by simpa using hi)) (fun i y t hi hh=>h3 (i+1) y t (by omega) (by simpa using hh))
  exact this hr h1 h2 h3
 have gt:∀e∈joinL (rs.map (jm x.key)),bl x.own.key e.key=true:=fun e he=>by
  have:=(dL _).get_of_mem he
  rw [tH _ hrp] at this
  cases hq:tellL (rs.map (jm x.key)) e.key with
  |none=>rw [hq] at this;cases this
  |some y=>
   obtain ⟨q,hq1,hq2⟩:=CZ hq
   obtain ⟨hy,hy2⟩:=get_mem hq2
   obtain ⟨p,hp,rfl⟩:=List.mem_map.1 hq1
   rw [<-hy2]
   exact WG (hr p hp) (hk p hp) y hy
 have abY:dI (x.own::joinL (rs.map (jm x.key))):=List.pairwise_cons.2 ⟨gt,dL _⟩
 refine ay.ext (dL rs) abY fun s=> ?_
 rw [tH s hr,dw]
 by_cases e:x.own.key=s
 ·subst e
  rw [if_pos rfl,L8,ht]
  rfl
 ·rw [if_neg e,tH s hrp,Dc hr hk s (fun q=>e q.symm)]
end Am
end Go.Proofs.YtbnkdnlfdofepaaGreat
namespace Go.Proofs.YtbnkdnlfdofepaaGreat
open Go.RowKit
set_option maxRecDepth 100000
theorem Sj:(Tryz.prog.info? 5).map (fun i=>(i.zero,i.size,i.bytes))=some (some (.int .u8 0),1,1):=by kernel_rfl
def Sl (w:World) (n:Nat) (xs:List Value) (en:Ending) (w':World):Prop:=∃v',en= .returned v'/\w'.ownsRow w.heap.size 5 1 v' n xs/\Below w.heap.size w w'
theorem below_grown {w w1 w2:World} {n:Nat} {e:TypeId} {sz:Nat} {v:Value} {k:Nat} {xs:List Value} (hb:Below n w w1) (hn:n<=w1.heap.size) (h:w1.ownsRow n e sz v k xs) (g:w1.grownBy w2 v.ownBlock):Below n w w2:=hb.grown g hn (fun j hj=>by
 rcases h.2 with ⟨rfl,_⟩|⟨b,cap,cur,rfl,hbase,_⟩
 ·cases hj
 ·cases hj;exact hbase)
set_option maxHeartbeats 400000 in
theorem Oo {w:World} {vb:Value} {n:Nat} {xs:List Value} (h:Rd w 1 vb n xs) (h1:∀u∈xs,u.oneCell'=true) (hn:n<=70368744177664):
  Calls Tryz.prog 112 #[vb] w (Sl w n xs):=by
 obtain ⟨hl,hbm,ba,bc,rfl,hbl,Ql,hnone,Zv⟩:=id h
 obtain ⟨i0,hi,hz0,hz1,hz2⟩:=info_parts Sj
 unfold maxLen at hbm Ql
 have H1:=Lib.hid h1
 cases ba with
 |none=>
  obtain ⟨rfl,rfl⟩:=hnone rfl
  have hx:xs=[]:=List.eq_nil_of_length_eq_zero (by simpa using hl)
  subst hx
  clear hl h h1 hnone Zv
  have hq:=fun w=>Lib.run_eql_slice_nil (P:=Tryz.prog) w 23 5 none 0 0 0 0 Tryz.underlying23
  go_enter Tryz.func112,Tryz.ntmps112
  go_wp2
  go_ret
  exact ⟨_,rfl,World.ownsRow_nil _ _ _ _,Below.refl _ _⟩
 |some a=>
  have hx:=(Zv a rfl).2
  have HX:=Lib.hid (show∀(W:World),Below w.heap.size w W->∀j u,xs[j]?=some u->W.cell? (a.add j)=some u from fun W hB j u hj=>by
   obtain ⟨_,_,a',c',e,_,_,_,q⟩:=h.below hB
   simp only [Value.slice.injEq] at e
   obtain ⟨rfl,_,rfl⟩:=e
   exact (q a rfl).2 j u hj)
  have HL:=Lib.hid (show xs.length=n*1 from hl)
  clear hl h h1 hnone Zv hx
  have hq:=fun w=>Lib.run_eql_slice_nil (P:=Tryz.prog) w 23 5 (some a) n bc 0 0 Tryz.underlying23
  have hrow:(w.alloc (.cells #[] 5)).ownsRow w.heap.size 5 1 (.slice (some ⟨w.heap.size,0,none⟩) 0 0) 0 []:=⟨rfl, .inr ⟨w.heap.size,0, #[],rfl,Nat.le_refl _,heap_alloc_new _ _,Nat.le_refl _,by unfold maxLen;omega,rfl,rfl⟩⟩
  have HR:=Lib.hid hrow
  have HB:=Lib.hid ((Below.refl w.heap.size w).alloc (Nat.le_refl _) (.cells #[] 5))
  clear hrow
  go_enter Tryz.func112,Tryz.ntmps112
  go_wp2_with (at_builtin;go_loud (refine wpList_append_own _ rfl _ _ 23 rfl w.heap.size 5 i0 (.int .u8 0) 1 1 Tryz.underlying23 hi hz0 hz1 hz2 rfl (by decide) _ _ _ rfl HR.out a n bc xs rfl HL.out (HX.out _ HB.out) H1.out (by unfold maxLen;omega) (by omega) (by simp) ?_;intro v' w2 h2 h3 h4;have H2:=Lib.hid h2;have H3:=Lib.hid h3;clear h2 h3 h4))
  go_ret
  exact ⟨_,rfl,by simpa using H2.out,below_grown HB.out (by simp) HR.out H3.out⟩
set_option maxHeartbeats 400000 in
theorem zM {w:World} {vb:Value} {n:Nat} {xs:List Value} (h:Rd w 1 vb n xs) (h1:∀u∈xs,u.oneCell'=true) (hn:n<=70368744177600) (m k:Nat) (hm:m < 18446744073709551616) (hk:k<=8):
  Calls Tryz.prog 66 #[vb, .int .u64 m, .int .i64 k] w (Sl w (n+k) (xs++(Am.encB m k).map bv)):=by
 obtain ⟨i0,hi,hz0,hz1,hz2⟩:=info_parts Sj
 have H:=Lib.hid h
 have H1:=Lib.hid h1
 have hkm:min (k:Int) 8=k:=by omega
 have hkx:max (k:Int) 0=k:=by omega
 clear h h1
 go_enter Tryz.func66,Tryz.ntmps66
 go_wp2_with (go_at_call 112;refine (Oo H.out H1.out (by omega)).mono ?_;rintro e w1 ⟨v1,rfl,h2,h3⟩;have H2:=Lib.hid h2;have H3:=Lib.hid h3;clear h2 h3)
 go_loopg [7,8] k (fun g s7 s8 wr=>∃j:Nat,j<=k/\g=j/\s8= .int .i64 ((j:Int) - 1)/\∃pre,wr.ownsRow w.heap.size 5 1 s7 (n+(k - j)) (xs++pre)/\pre++(Am.encB m j).map bv=(Am.encB m k).map bv/\Below w.heap.size w wr)
 case atStart=>exact ⟨k,Nat.le_refl _,rfl,rfl,[],by rw [Nat.sub_self,List.append_nil];exact H2.out,rfl,H3.out⟩
 case round=>
  obtain ⟨j,hj,hg,rfl,pre,q1,q2,q3⟩:=hrel
  have Q1:=Lib.hid q1
  have Q3:=Lib.hid q3
  have hsz:=q3.size
  clear q1 q3
  cases j with
  |zero=>
   go_wp2
   go_ret
   have e:Am.encB m 0=[]:=rfl
   rw [e,List.map_nil,List.append_nil] at q2
   subst q2
   exact ⟨_,rfl,Q1.out,Q3.out⟩
  |succ j=>
   go_wp2_with (at_builtin;go_loud (refine wpList_append_own _ rfl _ _ 23 rfl w.heap.size 5 i0 (.int .u8 0) 1 1 Tryz.underlying23 hi hz0 hz1 hz2 rfl (by decide) _ _ _ rfl (Q1.out.alloc _) ⟨wr.heap.size,0,none⟩ 1 1 [bv (UInt8.ofNat (m / 2^(8*j)))] rfl rfl (cell_one_new _ _ _) (by simp [bv,Value.oneCell']) (by unfold maxLen;omega) (by omega) (by simp;omega) ?_;intro v' w2 h2 h3 h4;have H2:=Lib.hid h2;have H3:=Lib.hid h3;clear h2 h3 h4))
   go_roundg j
   case measure=>omega
   case rel=>exact ⟨j,by omega,rfl,rfl,pre++[bv (UInt8.ofNat (m / 2^(8*j)))],by rw [show n+(k - j)=n+(k - (j+1))+1 by omega,<-List.append_assoc];exact H2.out,by rw [<-q2];simp [Am.encB],below_grown (Q3.out.alloc hsz _) (Nat.le_trans hsz (World.size_alloc _ _▸Nat.le_succ _)) (Q1.out.alloc _) H3.out⟩
 all_goals trace_state
end Go.Proofs.YtbnkdnlfdofepaaGreat
namespace Go.Proofs.YtbnkdnlfdofepaaGreat
open Go.RowKit
set_option maxRecDepth 100000
attribute [local go_sem] Oper.semAt_some
def KpB (B1 B2:Nat) (W W':World):Prop:=W'.heap[B1]?=W.heap[B1]?/\W'.heap[B2]?=W.heap[B2]?
theorem KpB.trans {B1 B2:Nat} {A B C:World} (h:KpB B1 B2 A B) (k:KpB B1 B2 B C):KpB B1 B2 A C:=⟨k.1.trans h.1,k.2.trans h.2⟩
theorem KpB.c1 {B1 B2:Nat} {A B:World} (h:KpB B1 B2 A B):B.cell? ⟨B1,0,none⟩=A.cell? ⟨B1,0,none⟩:=World.cell?_of_block h.1
theorem KpB.c2 {B1 B2:Nat} {A B:World} (h:KpB B1 B2 A B):B.cell? ⟨B2,0,none⟩=A.cell? ⟨B2,0,none⟩:=World.cell?_of_block h.2
def wC (a:Addr) (n k:Nat):Value:= .slice (some (a.add (24*k))) (min 8 (n - 8*k)) (min 8 (n - 8*k))
set_option maxHeartbeats 2000000 in
theorem Oq (n:Nat) (hn:1<=n) (l B1 B2 len cap:Nat) (ad:Addr) (hcap:len<=cap) (hreach:len<=1000000) (J Jx:List Nat->World->Prop)
  (hY:∀pre x W,x < (len+7) / 8->J pre W->pre.length < (len+7) / 8->YieldAt Fence.wide (n - 1) Tryz.prog l #[wC ad len x] W fun e W'=>
   (e= .returned (.bool true)/\J (pre++[x]) W'/\KpB B1 B2 W W')\/(e= .returned (.bool false)/\Jx (pre++[x]) W'))
  (hJd:∀s W,J s W->J s W.drew) (W:World) (hc1:W.cell? ⟨B1,0,none⟩=some (.slice (some ad) len cap)) (hc2:W.cell? ⟨B2,0,none⟩=some (.int .i64 8)) (h0:J [] W):
  CallsIn Fence.wide n Tryz.prog 177 #[.func (.yield l) #[] #[], .pointer (some ⟨B1,0,none⟩), .pointer (some ⟨B2,0,none⟩)] W fun e W'=>(∃v,e= .returned v)/\
   ((∃ys,ys=List.range ((len+7) / 8)/\J ys W')\/(∃pre,(∃k,k<=(len+7) / 8/\pre=List.range k)/\Jx pre W')):=by
 refine callsIn_of_wp Tryz.func177 rfl trivial ?_ rfl
 simp only [Tryz.ntmps177,List.size_toArray,List.length_cons,List.length_nil,Nat.reduceAdd,Nat.reduceSub,Array.replicate_succ,Array.replicate_zero,List.push_toArray,List.append_toArray,List.nil_append,List.cons_append]
 gi_wp2
 gi_loopw [4] (fun i wr=>∃k:Nat,k<=(len+7) / 8/\i= .int .i64 ((8*k:Nat):Int)/\J (List.range k) wr/\KpB B1 B2 W wr)
  (fun i _=>len+8 - (intOf i).toNat)
 case atStart=>exact ⟨0,Nat.zero_le _,rfl,h0,rfl,rfl⟩
 case round=>
  obtain ⟨k,hk,rfl,hJs,hnx⟩:=hrel
  have hcx1:wr.cell? ⟨B1,0,none⟩=some (.slice (some ad) len cap):=hnx.c1.trans hc1
  have aaZ:wr.cell? ⟨B2,0,none⟩=some (.int .i64 8):=hnx.c2.trans hc2
  by_cases hlt:8*k < len
  ·obtain ⟨fn,tmps,assign,body,hy,hR⟩:=hY _ k wr.drew (by omega) (hJd _ _ hJs) (by rw [List.length_range];omega)
   unfold wC at hy
   have hm3:8*k*3=24*k:=by omega
   by_cases h8:8<=len - 8*k
   ·have h8':(8:Int)<=((len - 8*k:Nat):Int):=by omega
    have e1:(8*(k:Int)+8).toNat - 8*k=8:=by omega
    rw [show min 8 (len - 8*k)=8 from Nat.min_eq_left h8] at hy
    gi_wp2
    gi_region
    gi_wp2
    refine hR.mono ?_
    rintro e W3 (⟨rfl,hJ3,hk3⟩|⟨rfl,hJx3⟩)
    ·have hk4:KpB B1 B2 wr W3:=hk3
     have abZ:W3.cell? ⟨B2,0,none⟩=some (.int .i64 8):=hk4.c2.trans aaZ
     gi_wp2
     go_roundw
     case rel=>exact ⟨k+1,by omega,by rw [show 8*(k+1)=8*k+8 by omega];simp,by rw [List.range_succ];exact hJ3,hnx.trans hk4⟩
     case measure=>simp [intOf];omega
    ·gi_wp2
     refine bodyPost_ret (results_none rfl _ _ _) rfl ?_
     exact ⟨⟨_,rfl⟩, .inr ⟨_,⟨k+1,by omega,(List.range_succ).symm⟩,hJx3⟩⟩
   ·have e1:(8*(k:Int)+((len - 8*k:Nat):Int)).toNat - 8*k=len - 8*k:=by omega
    rw [show min 8 (len - 8*k)=len - 8*k from Nat.min_eq_right (by omega)] at hy
    gi_wp2
    gi_region
    gi_wp2
    refine hR.mono ?_
    rintro e W3 (⟨rfl,hJ3,hk3⟩|⟨rfl,hJx3⟩)
    ·have hk4:KpB B1 B2 wr W3:=hk3
     have abZ:W3.cell? ⟨B2,0,none⟩=some (.int .i64 8):=hk4.c2.trans aaZ
     gi_wp2
     go_roundw
     case rel=>exact ⟨k+1,by omega,by rw [show 8*(k+1)=8*k+8 by omega];simp,by rw [List.range_succ];exact hJ3,hnx.trans hk4⟩
     case measure=>simp [intOf];omega
    ·gi_wp2
     refine bodyPost_ret (results_none rfl _ _ _) rfl ?_
     exact ⟨⟨_,rfl⟩, .inr ⟨_,⟨k+1,by omega,(List.range_succ).symm⟩,hJx3⟩⟩
  ·obtain rfl:k=(len+7) / 8:=by omega
   gi_wp2
   go_end0
   exact ⟨⟨_,rfl⟩, .inl ⟨_,rfl,hJs⟩⟩
set_option maxHeartbeats 1000000 in
theorem Sm (n:Nat) (a:Option Addr) (len cap:Nat) (w:World):
  CallsIn Fence.wide n Tryz.prog 160 #[.slice a len cap, .int .i64 8] w fun e w'=>e= .returned (.func (.func 177) #[] #[.pointer (some ⟨w.heap.size,0,none⟩), .pointer (some ⟨w.heap.size+1,0,none⟩)])/\w'=(w.alloc (.cells #[.slice a len cap] 71)).alloc (.cells #[.int .i64 8] 3):=by
 refine callsIn_of_wp Tryz.func160 rfl trivial ?_ rfl
 simp only [Tryz.ntmps160,List.size_toArray,List.length_cons,List.length_nil,Nat.reduceAdd,Nat.reduceSub,Array.replicate_succ,Array.replicate_zero,List.push_toArray,List.append_toArray,List.nil_append,List.cons_append]
 gi_wp2
 go_ret
 exact ⟨rfl,rfl⟩
abbrev PtN (N:Nat):={x:Nat // x < N}
theorem Ia (n:Nat) (hn:1<=n) (B1 B2 len cap:Nat) (ad:Addr) (hcap:len<=cap) (hreach:len<=1000000) (w:World) (hb1:B1 < w.heap.size) (hb2:B2 < w.heap.size)
  (hc1:w.cell? ⟨B1,0,none⟩=some (.slice (some ad) len cap)) (hc2:w.cell? ⟨B2,0,none⟩=some (.int .i64 8)):
  SeqStopsK Fence.wide n Tryz.prog 177 #[.pointer (some ⟨B1,0,none⟩), .pointer (some ⟨B2,0,none⟩)] (fun x:PtN ((len+7) / 8)=> #[wC ad len x.1]) (KpB B1 B2) (fun ys=>ys.map Subtype.val=List.range ((len+7) / 8)) (fun _=>True) ((len+7) / 8) w:=fun l J Jx W hW hJ _ hY h0=>by
 refine (Oq n hn l B1 B2 len cap ad hcap hreach (fun pre W=>∃p:List (PtN ((len+7) / 8)),p.map Subtype.val=pre/\J p W) (fun pre W=>∃p:List (PtN ((len+7) / 8)),p.map Subtype.val=pre/\Jx p W) ?_ (fun s W hs=> ?_) W ((hW.cell (p:=⟨B1,0,none⟩) hb1).trans hc1) ((hW.cell (p:=⟨B2,0,none⟩) hb2).trans hc2) ⟨[],rfl,h0⟩).mono ?_
 ·rintro pre x W hx ⟨p,rfl,hp⟩ hl
  refine (hY p ⟨x,hx⟩ W hp (by rwa [List.length_map] at hl)).mono fun e W' h=> ?_
  rcases h with ⟨h1,h2,h3⟩|⟨h1,h2⟩
  ·exact .inl ⟨h1,⟨p++[⟨x,hx⟩],by simp,h2⟩,h3⟩
  ·exact .inr ⟨h1,⟨p++[⟨x,hx⟩],by simp,h2⟩⟩
 ·obtain ⟨p,h1,h2⟩:=hs
  exact ⟨p,h1,hJ p W _ none h2 ⟨rfl,rfl,rfl,Nat.le_refl _,fun _ _ _=>rfl⟩ (fun _ h=>nomatch h)⟩
 ·rintro e W' ⟨h1,⟨ys,rfl,p,h2,h3⟩|⟨pre,_,p,h2,h3⟩⟩
  ·exact ⟨h1, .inl ⟨p,h2,h3⟩⟩
  ·exact ⟨h1, .inr ⟨p,True.intro,h3⟩⟩
end Go.Proofs.YtbnkdnlfdofepaaGreat
