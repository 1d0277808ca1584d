/- The document's disk (marigraphref3) in the plain machine: how it lies there. The document's disk: its search, its count, its room; all files but one. The document's disk: Create, Remove, Sync, Read, Arm, Grow. The document's disk: Append, Cut, Rename. -/
import Derived.Test.YtbnkdnlfdofepaaGreatMK
import Derived.Test.YtbnkdnlfdofepaaGreatMD
set_option linter.unusedVariables false
set_option linter.unusedSimpArgs false
namespace Go.Proofs.YtbnkdnlfdofepaaGreat
namespace Am
open Go.RowKit
set_option maxRecDepth 100000
structure QF where
 name:List UInt8
 v:AV
 b:List UInt8
 sy:Nat
def QF.mf (q:QF):MF:=⟨q.name,q.b,q.sy⟩
def QF.cells (q:QF):List AV:=[.str q.name,q.v, .int .i64 q.sy]
def uj (m:MD) (v:AV):List AV:=[v, .int .i64 m.limit, .int .i64 m.armed, .bool m.down]
theorem RG (qs:List QF):(qs.flatMap QF.cells).length=qs.length*3:=by
 induction qs with
 |nil=>rfl
 |cons q l ih=>rw [List.flatMap_cons,List.length_append,ih,List.length_cons,Nat.succ_mul,Nat.add_comm];rfl
theorem X8:∀{tri:List QF} {i:Nat} {q:QF} {j:Nat},tri[i]?=some q->j < 3->(tri.flatMap QF.cells)[i*3+j]?=(QF.cells q)[j]?
 |[],i,q,j,h,_=>by simp at h
 |p::l,0,q,j,h,hj=>by
  simp at h;subst h
  rw [List.flatMap_cons,List.getElem?_append_left (by simp [QF.cells];omega)]
  simp
 |p::l,i+1,q,j,h,hj=>by
  simp at h
  rw [List.flatMap_cons,List.getElem?_append_right (by simp [QF.cells];omega)]
  have e:(i+1)*3+j - (QF.cells p).length=i*3+j:=by simp [QF.cells];omega
  rw [e]
  exact X8 h hj
theorem RH:∀{tri:List QF} {i:Nat} {q:QF},tri[i]?=some q->((tri.flatMap QF.cells).drop (i*3)).take 3=QF.cells q
 |[],i,q,h=>by simp at h
 |p::l,0,q,h=>by
  simp at h;subst h
  rw [List.flatMap_cons,Nat.zero_mul,List.drop_zero]
  exact List.take_left (l₁:=QF.cells p)
 |p::l,i+1,q,h=>by
  simp at h
  rw [List.flatMap_cons]
  have e:(i+1)*3=(QF.cells p).length+i*3:=by simp [QF.cells];omega
  rw [e,<-List.drop_drop,List.drop_left]
  exact RH h
theorem RI:∀{tri:List QF} {i j:Nat} {q q':QF} {u:AV},tri[i]?=some q->j < 3->q'.cells=q.cells.set j u->(tri.flatMap QF.cells).set (i*3+j) u=(tri.set i q').flatMap QF.cells
 |[],i,j,q,q',u,h,_,_=>by simp at h
 |p::l,0,j,q,q',u,h,hj,hc=>by
  simp at h;subst h
  rw [List.flatMap_cons,List.set_cons_zero,List.flatMap_cons,hc,Nat.zero_mul,Nat.zero_add,List.set_append_left _ _ (by simp [QF.cells];omega)]
 |p::l,i+1,j,q,q',u,h,hj,hc=>by
  simp at h
  rw [List.flatMap_cons,List.set_cons_succ,List.flatMap_cons,List.set_append_right _ _ (by simp [QF.cells];omega)]
  have e:(i+1)*3+j - (QF.cells p).length=i*3+j:=by simp [QF.cells];omega
  rw [e,RI h hj hc]
section
variable {X:Type} {h h':Hp X}
theorem RS.atQ {n:Nat} {v:AV} {tri:List QF} (a:RS h 3 v n (tri.flatMap QF.cells)) {i:Nat} {q:QF} (hi:tri[i]?=some q):∃g o,(∀{hh:Hp X} {e:En} {t:List AV} {x y:Od} {k:IntKind},x.ev e t=v->y.ev e t= .int k (i:Int)->(Mv.aP 3 x y).ev e t hh=some (.ptr g o))/\
  (∀{S:Nat->Prop} {hh:Hp X},Keep S h hh->(∀k,blk v k->¬S k)->∀{e:En} {t:List AV} {x:Od} {j:Nat},x.ev e t= .ptr g (o+j)->j < 3->(Mv.ld1 x).ev e t hh=(QF.cells q)[j]?)/\
  (∀{S:Nat->Prop} {hh:Hp X},Keep S h hh->(∀k,blk v k->¬S k)->∀{e:En} {t:List AV} {x:Od},x.ev e t= .ptr g o->(Mv.ldn 3 x).ev e t hh=some (.agg (QF.cells q))):=by
 have hlen:=a.len
 rw [RG] at hlen
 have hil:=(List.getElem?_eq_some_iff.1 hi).1
 have hin:i < n:=by omega
 cases v<;>first|exact a.elim|skip
 ·rename_i z g o m cap
  obtain ⟨rfl,rfl,hg,l,hl,hle,hc⟩:=a
  refine ⟨g,o+i*3,fun {hh e t x y k} hx hy=> ?_,fun {S hh} hk hs {e t x j} hx hj=> ?_,fun {S hh} hk hs {e t x} hx=> ?_⟩
  ·simp only [Mv.ev,hx,hy,nOf]
   rw [show Nat.blt i m=true by rw [Nat.blt_eq];exact hin]
   rfl
  ·simp only [Mv.ev,hx,AV.onPtr]
   rw [lu (hk.get g hg (hs g rfl)),hl]
   simp only
   have:=X8 hi hj
   rw [hc,List.getElem?_take_of_lt (by omega),List.getElem?_drop] at this
   rw [yC,<-this,Nat.add_assoc]
  ·simp only [Mv.ev,hx,AV.onPtr]
   rw [lu (hk.get g hg (hs g rfl)),hl]
   have:=RH hi
   rw [hc,List.drop_take,List.take_take,List.drop_drop,Nat.min_eq_left (by omega)] at this
   unfold takeN
   have hb:(o+i*3+3).ble l.length=true:=dK (by omega)
   simp only [hb,cond_true,this]
 ·obtain ⟨rfl,_⟩:=a;omega
 ·obtain ⟨rfl,_⟩:=a;omega
structure LF (h:Hp X) (v:AV) (qs:List QF) (lo:Nat):Prop where
 arr:OS h 3 v qs.length (qs.flatMap QF.cells)
 fro:∀k,blk v k->lo < k
 row:∀q∈qs,RS h 1 q.v q.b.length (q.b.map ub)/\∀k,blk q.v k->lo < k/\¬blk v k
theorem LF.nil {lo:Nat}:LF h .ae [] lo:=⟨⟨rfl,rfl⟩,fun k q=>q.elim,fun q hq=>by simp at hq⟩
theorem LF.keep {S:Nat->Prop} {v:AV} {qs:List QF} {lo:Nat} (a:LF h v qs lo) (k:Keep S h h') (hs:∀k,S k->k < h.n->k<=lo):LF h' v qs lo:=
 ⟨a.arr.keep k (fun j hj q=>by have:=a.fro j hj;have:=hs j q (a.arr.lt j hj);omega),a.fro,fun q hq=>⟨(a.row q hq).1.keep k (fun j hj q1=>by have:=((a.row q hq).2 j hj).1;have:=hs j q1 ((a.row q hq).1.lt j hj);omega),(a.row q hq).2⟩⟩
theorem LF.set {v u:AV} {qs:List QF} {lo i j:Nat} {q q':QF} (a:LF h v qs lo) (hi:qs[i]?=some q) (hj:j < 3) (hc:q'.cells=q.cells.set j u) (hv:RS h 1 q'.v q'.b.length (q'.b.map ub)) (hn:∀k,blk q'.v k->lo < k/\¬blk v k):
  ∃g o lc,(∀{hh:Hp X} {e:En} {t:List AV} {x y:Od} {kk:IntKind},x.ev e t=v->y.ev e t= .int kk (i:Int)->(Mv.aP 3 x y).ev e t hh=some (.ptr g o))/\
  Bx h g lc/\o+j < lc.length/\LF (h.put g (.rw (spl (o+j) [u] lc))) v (qs.set i q') lo/\blk v g/\lo < g:=by
 have hil:=(List.getElem?_eq_some_iff.1 hi).1
 have hao:=a.arr
 have hset:=RI hi hj hc
 have hll:=RG qs
 cases v<;>first|exact hao.elim|skip
 ·rename_i z g o m cap
  obtain ⟨rfl,rfl,hz,hg,l,hl,hle,hcl,hcap⟩:=hao
  have kg:Keep (az g) h (h.put g (.rw (spl (o+i*3+j) [u] l))):=Keep.put _ _ _ rfl
  refine ⟨g,o+i*3,l,fun {hh e t x y kk} hx hy=> ?_,⟨hg,hl⟩,by omega,⟨?_,a.fro,fun r hr=> ?_⟩,rfl,a.fro g rfl⟩
  ·simp only [Mv.ev,hx,hy,nOf]
   rw [show Nat.blt i qs.length=true by rw [Nat.blt_eq];exact hil]
   rfl
  ·rw [List.length_set]
   refine ⟨rfl,rfl,hz,hg,_,Hp.bW _ _ _, ?_, ?_, ?_⟩
   ·rw [sW (by omega),List.length_set];exact hle
   ·rw [sW (by omega),<-hset,hcl,List.drop_set,if_neg (by omega),List.take_set]
    congr 1
    omega
   ·rw [sW (by omega),List.length_set];exact hcap
  ·rcases List.mem_or_eq_of_mem_set hr with hr|rfl
   ·exact ⟨(a.row r hr).1.keep kg (fun k q1 q2=>((a.row r hr).2 k q1).2 q2),(a.row r hr).2⟩
   ·exact ⟨hv.keep kg (fun k q1 q2=>(hn k q1).2 q2),hn⟩
 ·obtain ⟨h0,_⟩:=hao;omega
end
structure RD (h:Hp MD) (r:Nat) (m:MD):Prop where
 out:∃v qs,Bx h r (uj m v)/\LF h v qs r/\(qs.map QF.mf).Perm m.fs
 ok:m.Ok
theorem RD.keep {S:Nat->Prop} {h h':Hp MD} {r:Nat} {m:MD} (a:RD h r m) (k:Keep S h h') (hs:∀k,S k->k < h.n->k < r):RD h' r m:=by
 obtain ⟨v,qs,h1,h2,h3⟩:=a.out
 exact ⟨⟨v,qs,h1.keep k (fun q=>by have:=hs r q h1.lt;omega),h2.keep k (fun j q1 q2=>Nat.le_of_lt (hs j q1 q2)),h3⟩,a.ok⟩
theorem RD.lt {h:Hp MD} {r:Nat} {m:MD} (a:RD h r m):r < h.n:=by obtain ⟨_,_,h1,_⟩:=a.out;exact h1.lt
section
variable {X:Type} {h:Hp X}
theorem LF.at {v:AV} {qs:List QF} {lo i:Nat} {q:QF} (a:LF h v qs lo) (hi:qs[i]?=some q):∃g o,(∀{hh:Hp X} {e:En} {t:List AV} {x y:Od} {k:IntKind},x.ev e t=v->y.ev e t= .int k (i:Int)->(Mv.aP 3 x y).ev e t hh=some (.ptr g o))/\
  (∀{e:En} {t:List AV} {x:Od},x.ev e t= .ptr g (o+0)->(Mv.ld1 x).ev e t h=some (.str q.name))/\(∀{e:En} {t:List AV} {x:Od},x.ev e t= .ptr g (o+1)->(Mv.ld1 x).ev e t h=some q.v)/\
  (∀{e:En} {t:List AV} {x:Od},x.ev e t= .ptr g (o+2)->(Mv.ld1 x).ev e t h=some (.int .i64 q.sy))/\∀{e:En} {t:List AV} {x:Od},x.ev e t= .ptr g o->(Mv.ldn 3 x).ev e t h=some (.agg (QF.cells q)):=by
 obtain ⟨g,o,c1,c2,c3⟩:=a.arr.rs.atQ hi
 exact ⟨g,o,c1,fun hx=>c2 (Keep.refl NoB _) (fun _ _ q=>q) hx (by decide),fun hx=>c2 (Keep.refl NoB _) (fun _ _ q=>q) hx (by decide),fun hx=>c2 (Keep.refl NoB _) (fun _ _ q=>q) hx (by decide),fun hx=>c3 (Keep.refl NoB _) (fun _ _ q=>q) hx⟩
theorem LY {e:En} {t:List AV} {q:Eq} {x y:Od} {a b:List UInt8} (hx:x.ev e t= .str a) (hy:y.ev e t= .str b) (hab:a≠b):(Mv.bin .eql q x y).ev e t h=some (.bool false):=by
 rw [uG hx hy,beq_false_of_ne hab]
theorem di {e:En} {t:List AV} {x:Od} {a:Bool} (hx:x.ev e t= .bool a):(Mv.jd x).ev e t h=some (.bool (!a)):=by
 simp only [Mv.ev,hx,AV.onBool]
end
inductive Hq {α:Type}:List α->Nat->Prop
 |nil:Hq [] 0
 |snoc {l:List α} {n:Nat} {x:α}:Hq l n->Hq (l++[x]) (n+1)
theorem Hq.len {α:Type} {l:List α} {n:Nat} (a:Hq l n):l.length=n:=by
 induction a with
 |nil=>rfl
 |snoc _ ih=>rw [List.length_append,ih];rfl
section
variable {h:Hp MD} {past:List (Pa MD)} {r:List Nat} {q:Nat}
theorem iR {x:Pa MD} (hp:past[q]?=some x) (hx:x.ok h=true) (H:Chk h past r):Chk h past (q::r):=⟨by simp only [chkAll,hp,hx,H.out,Bool.and_self]⟩
theorem iT {m:Mv} {e:En} {t:List AV} {v:AV} (hm:m.ev e t h=some v):(Pa.mov m e t v:Pa MD).ok h=true:=by simp only [Pa.ok,hm,vU]
end
section
variable {E:Nat->Option (Ent MD)}
theorem bT (m:MD):m.count.fs=m.fs:=by unfold MD.count;split<;>rfl
end
end Am
end Go.Proofs.YtbnkdnlfdofepaaGreat
