/- Lists and records in plain Lean: what is written is read; what a Write makes of a disk. No program. What Batch wrote is read; a log's beginning. No program. A disk that has one file: what is made of it, how a log on it is opened. No program. Layer 5: what its laws call. -/
import Derived.Test.YtbnkdnlfdofepaaGreatMJ
import Derived.Test.YtbnkdnlfdofepaaGreatML
set_option linter.unusedVariables false
set_option linter.unusedSimpArgs false
namespace Go.Proofs.YtbnkdnlfdofepaaGreat
namespace Am
open Go.RowKit
set_option maxRecDepth 100000
theorem JD:∀(l:List UInt8) (a:Nat),l.foldl (fun n b=>n*256+b.toNat) a=a*256^l.length+be l
 |[],a=>by simp [be]
 |b::l,a=>by
  have h1:=JD l (a*256+b.toNat)
  have h2:=JD l b.toNat
  show l.foldl _ (a*256+b.toNat)=a*256^(l.length+1)+l.foldl _ (0*256+b.toNat)
  rw [h1,Nat.zero_mul,Nat.zero_add,h2,Nat.pow_succ,Nat.add_mul,Nat.mul_assoc,Nat.mul_comm 256,Nat.add_assoc]
theorem Ws (b:UInt8) (l:List UInt8):be (b::l)=b.toNat*256^l.length+be l:=by
 show l.foldl _ (0*256+b.toNat)=_
 rw [Nat.zero_mul,Nat.zero_add,JD]
theorem Hu (m:Nat):∀k,be (encB m k)=m % 256^k
 |0=>by simp [encB,be,Nat.mod_one]
 |k+1=>by
  have e:2^(8*k)=256^k:=by rw [Nat.pow_mul]
  have e2:=Nat.mod_pow_succ (x:=m) (b:=256) (k:=k)
  rw [encB,Ws,aB,Hu m k,UInt8.toNat_ofNat',e,e2,Nat.mul_comm,Nat.add_comm]
theorem ni {m k:Nat} (h:m < 256^k):be (encB m k)=m:=by rw [Hu,Nat.mod_eq_of_lt h]
theorem zF {b r:List UInt8}:(cu b++r).take 3=encB b.length 3:=by
 unfold cu
 rw [List.append_assoc,List.append_assoc,List.take_append_of_le_length (by rw [aB];omega),List.take_of_length_le (by rw [aB];omega)]
theorem EK {b r:List UInt8}:((cu b++r).drop 3).take 3=encB (b.length^^^16777215) 3:=by
 unfold cu
 rw [List.append_assoc,List.append_assoc,List.drop_append_of_le_length (by rw [aB];omega),List.drop_of_length_le (by rw [aB];omega),List.nil_append,List.take_append_of_le_length (by rw [aB];omega),List.take_of_length_le (by rw [aB];omega)]
theorem Hw {b r:List UInt8}:(cu b++r).drop 6=b++r:=by
 unfold cu
 have e:(encB b.length 3++encB (b.length^^^16777215) 3).length=6:=by rw [List.length_append,aB,aB]
 rw [List.append_assoc (encB b.length 3++encB (b.length^^^16777215) 3),<-e,List.drop_left]
theorem Hy {b r:List UInt8} (hb:b.length<=1048576):kN (cu b++r)=(b.length,true):=by
 unfold kN
 have hl:(cu b++r).length=6+b.length+r.length:=by rw [List.length_append,oI]
 have hx:b.length^^^16777215 < 16777216:=by rw [aaS (by omega)];omega
 rw [if_neg (by omega),zF,EK,ni (show b.length < 256^3 by omega),ni (show b.length^^^16777215 < 256^3 from hx)]
 rw [<-Nat.xor_assoc,Nat.xor_self,Nat.zero_xor]
 simp [hb]
theorem RU {b r:List UInt8} (hb:b.length<=1048576) (k:Nat):allG (k+1) (cu b++r)=(b::(allG k r).1,6+b.length+(allG k r).2.1,(allG k r).2.2):=by
 have hl:(cu b++r).length=6+b.length+r.length:=by rw [List.length_append,oI]
 rw [allG]
 simp only [Hy hb]
 rw [if_neg (by rintro (q|⟨_,q⟩)<;>omega),if_neg (by decide),Hw]
 have e1:(b++r).take b.length=b:=List.take_left
 have e2:(cu b++r).drop (6+b.length)=r:=by rw [<-List.drop_drop,Hw,List.drop_left]
 rw [e1,e2]
theorem RV (k:Nat):allG k []=([],0,true):=by
 cases k with
 |zero=>rfl
 |succ k=>rw [allG,if_pos (.inl (by simp))]
def nrm (l:List EM):Prop:=∀e∈l,e.gone=true->e.val=[]
theorem EL (b:UInt8):be [b]=b.toNat:=by simp [be]
theorem JE {e:EM} (hk:okE e=true) (hn:e.gone=true->e.val=[]) (rest:List UInt8):iE (jV e++rest)=some (e.gone,e.key,e.val,rest):=by
 unfold okE at hk
 simp only [Bool.and_eq_true,decide_eq_true_eq] at hk
 obtain ⟨⟨k1,k2⟩,k3⟩:=hk
 have hb:=LV k2
 obtain ⟨key,val,gone⟩:=e
 simp only at hn k1 k2 k3 hb
 cases gone with
 |true=>
  have hv:=hn rfl
  subst hv
  have e1:jV ⟨key,[],true⟩++rest=0::UInt8.ofNat key.length::(key++rest):=by simp [jV]
  rw [e1]
  unfold iE
  simp only [List.drop_succ_cons,List.drop_zero,List.take_succ_cons,List.take_zero,List.length_cons,EL,hb]
  rw [if_neg (by omega),if_neg (by omega),if_neg (by simp),if_pos (by decide)]
  simp
 |false=>
  have k3:val.length<=4095:=k3
  have e1:jV ⟨key,val,false⟩++rest=1::UInt8.ofNat key.length::(key++(encB val.length 2++(val++rest))):=by simp [jV]
  rw [e1]
  unfold iE
  simp only [List.drop_succ_cons,List.drop_zero,List.take_succ_cons,List.take_zero,List.length_cons,EL,hb]
  rw [List.drop_left,List.take_left]
  have h2:(encB val.length 2).length=2:=aB _ _
  have e2:(encB val.length 2++(val++rest)).take 2=encB val.length 2:=by rw [<-h2];exact List.take_left
  have e3:(encB val.length 2++(val++rest)).drop 2=val++rest:=by rw [<-h2];exact List.drop_left
  rw [e2,e3,ni (by omega),List.drop_left,List.take_left]
  rw [if_neg (by omega),if_neg (by omega),if_neg (by simp),if_neg (by decide),if_neg (by simp [h2]),if_neg (by simp)]
theorem xP:∀{l:List EM} (rest:List UInt8),(∀e∈l,okE e=true)->nrm l->parseN l.length (l.flatMap jV++rest)=some l
 |[],rest,_,_=>rfl
 |e::l,rest,h,hn=>by
  rw [List.flatMap_cons,List.append_assoc,List.length_cons,xN (JE (h e (List.mem_cons_self ..)) (hn e (List.mem_cons_self ..)) _),xP rest (fun x hx=>h x (List.mem_cons_of_mem _ hx)) (fun x hx=>hn x (List.mem_cons_of_mem _ hx))]
  rfl
theorem Wu {l:List EM} (hm:mM l=true):l.length<=8191/\∀e∈l,okE e=true:=by
 unfold mM at hm
 simp only [Bool.and_eq_true,decide_eq_true_eq,List.all_eq_true] at hm
 exact hm
theorem Oj {l:List EM} (hm:mM l=true) (hn:nrm l):mZ (dF l)=some l:=by
 obtain ⟨h1,h2⟩:=Wu hm
 unfold mZ dF
 have h3:(encB l.length 2).length=2:=aB _ _
 have e2:(encB l.length 2++l.flatMap jV).take 2=encB l.length 2:=by rw [<-h3];exact List.take_left
 have e3:(encB l.length 2++l.flatMap jV).drop 2=l.flatMap jV:=by rw [<-h3];exact List.drop_left
 rw [e2,e3,ni (by omega),if_neg (by rw [List.length_append];omega)]
 have:=xP (l:=l) [] h2 hn
 rwa [List.append_nil] at this
theorem Wv {l:List EM} (hm:mM l=true) (hn:nrm l):frE (dF l)=some l:=by
 unfold frE
 rw [Oj hm hn]
 simp [hm]
theorem CV:∀{ls:List (List EM)},(∀l∈ls,mM l=true/\nrm l)->allE (ls.map dF)=some ls
 |[],_=>rfl
 |l::ls,h=>by
  rw [List.map_cons]
  unfold allE
  rw [Wv (h l (List.mem_cons_self ..)).1 (h l (List.mem_cons_self ..)).2,CV (fun x hx=>h x (List.mem_cons_of_mem _ hx))]
  rfl
theorem Hz:∀(k:Nat) {ls:List (List EM)} {p q:List UInt8},(∀l∈ls,(dF l).length<=1048576)->p++q=laidB ls->p.length < k->
  ∃m,m<=ls.length/\allG k p=((ls.take m).map dF,(laidB (ls.take m)).length,true)/\(laidB (ls.take m)).length<=p.length/\∀j,j<=ls.length->(laidB (ls.take j)).length<=p.length->j<=m
 |0,_,_,_,_,_,h=>by omega
 |k+1,[],p,q,hb,hp,hk=>by
  have:p=[]:=by
   cases p with
   |nil=>rfl
   |cons _ _=>simp [laidB] at hp
  subst this
  exact ⟨0,by simp,by rw [RV];simp [laidB],by simp [laidB],fun j hj _=>hj⟩
 |k+1,l::ls,p,q,hb,hp,hk=>by
  have hl:=hb l (List.mem_cons_self ..)
  have e0:laidB (l::ls)=cu (dF l)++laidB ls:=by simp [laidB]
  have hrl:=oI (dF l)
  rw [e0] at hp
  by_cases hc:(cu (dF l)).length<=p.length
  ·obtain ⟨p',rfl⟩:∃p',p=cu (dF l)++p':=by
    refine ⟨p.drop (cu (dF l)).length, ?_⟩
    have h1:(p++q).take (cu (dF l)).length=cu (dF l):=by rw [hp];exact List.take_left
    rw [List.take_append_of_le_length hc] at h1
    conv=>lhs;rw [<-List.take_append_drop (cu (dF l)).length p]
    rw [h1]
   rw [List.append_assoc] at hp
   have hp':=List.append_cancel_left hp
   rw [List.length_append] at hk
   obtain ⟨m,h1,h2,h3,h4⟩:=Hz k (fun x hx=>hb x (List.mem_cons_of_mem _ hx)) hp' (by omega)
   refine ⟨m+1,by simp;omega, ?_, ?_,fun j hj hjl=> ?_⟩
   ·rw [RU hl,h2]
    simp [laidB,hrl]
   ·simp only [List.take_succ_cons,laidB,List.flatMap_cons,List.length_append] at h3 ⊢
    omega
   ·cases j with
    |zero=>omega
    |succ j=>
     have:=h4 j (by simp at hj;omega) (by simp only [List.take_succ_cons,laidB,List.flatMap_cons,List.length_append] at hjl ⊢;omega)
     omega
  ·refine ⟨0,by omega, ?_,by simp [laidB],fun j hj hjl=> ?_⟩
   ·have hpt:p=(cu (dF l)).take p.length:=by
     have h1:(p++q).take p.length=p:=List.take_left
     rw [hp,List.take_append_of_le_length (by omega)] at h1
     exact h1.symm
    rw [allG,if_pos]
    ·simp [laidB]
    ·by_cases h6:p.length < 6
     ·exact .inl h6
     ·right
      have e1:p.take 3=encB (dF l).length 3:=by
       have:=zF (b:=dF l) (r:=[])
       rw [List.append_nil] at this
       rw [hpt,List.take_take,Nat.min_eq_left (by omega)]
       exact this
      have e2:(p.drop 3).take 3=encB ((dF l).length^^^16777215) 3:=by
       have:=EK (b:=dF l) (r:=[])
       rw [List.append_nil] at this
       rw [hpt,List.drop_take,List.take_take,Nat.min_eq_left (by omega)]
       exact this
      have hlen:kN p=kN (cu (dF l)++[]):=by
       unfold kN
       rw [zF,EK,e1,e2,if_neg h6,if_neg (by rw [List.append_nil];omega)]
      rw [hlen,Hy hl]
      exact ⟨rfl,by simp only;omega⟩
   ·cases j with
    |zero=>omega
    |succ j=>
     simp only [List.take_succ_cons,laidB,List.flatMap_cons,List.length_append] at hjl
     omega
def W1 (s:List UInt8) (L a:Int) (dn:Bool) (b:List UInt8) (sy:Nat):MD:=⟨L,a,dn,[⟨s,b,sy⟩]⟩
section
variable {s:List UInt8} {L a:Int} {dn:Bool} {b:List UInt8} {sy:Nat}
theorem W1.get:(W1 s L a dn b sy).get s=some ⟨s,b,sy⟩:=by simp [W1,MD.get,aO]
end
section
variable {E:Nat->Option (Ent MD)}
theorem nG.at {X:Type} {h:Hp X} {v:AV} {ls:List (List EM)} {F:Nat->Prop} (a:nG h v ls F) {i:Nat} {l:List EM} (hi:ls[i]?=some l):∃g o c,aN h c l F/\(∀{hh:Hp X} {e:En} {t:List AV} {x y:Od} {k:IntKind},x.ev e t=v->y.ev e t= .int k (i:Int)->(Mv.aP 1 x y).ev e t hh=some (.ptr g o))/\
  ∀{S:Nat->Prop} {hh:Hp X},Keep S h hh->(∀k,blk v k->¬S k)->∀{e:En} {t:List AV} {x:Od},x.ev e t= .ptr g o->(Mv.ld1 x).ev e t hh=some c:=by
 obtain ⟨cells,h1,h2,h3⟩:=a.out
 obtain ⟨c,hc,ef⟩:=h3 i l hi
 obtain ⟨g,o,pa,la⟩:=h1.at2 (List.getElem?_eq_some_iff.1 hi).1
 exact ⟨g,o,c,ef,pa,fun {S hh} k hs {e t x} hx=>by rw [la k hs hx];exact hc⟩
theorem nG.rs {X:Type} {h:Hp X} {v:AV} {ls:List (List EM)} {F:Nat->Prop} (a:nG h v ls F):∃cells,RS h 1 v ls.length cells:=by obtain ⟨_,h1,_⟩:=a.out;exact ⟨_,h1⟩
end
end Am
end Go.Proofs.YtbnkdnlfdofepaaGreat
