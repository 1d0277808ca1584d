/- The disk's search: strings.Compare, the binary search over the files, find. The disk in plain Lean: names in order, files, what each call does. No program. The disk in plain Lean, further: what holds of it is kept by each call. No program. How a disk lies in memory; its search, its count of calls. The disk's functions that only read; its count of calls. slices.Insert of one element into a slice that is owned: []*disk.file. slices.Delete of one element of a slice that is owned: []*disk.file. The disk: a file comes to stand in the list, goes out of it. The disk's functions that turn the list of  -/
import Derived.Test.YtbnkdnlfdofepaaGreatRows
import Derived.Test.YtbnkdnlfdofepaaGreatMA
import Derived.Lib.Overlaps
import Derived.Deep.RegionLaw
set_option linter.unusedVariables false
set_option linter.unusedSimpArgs false
namespace Go.Proofs.YtbnkdnlfdofepaaGreat
open Go.RowKit
set_option maxRecDepth 100000
theorem Aw (a b:ByteArray) (w:World):
  Calls Tryz.prog 179 #[.string a, .string b] w fun e w'=>e= .returned (.int .i64 (Lib.compareBytes a.data.toList b.data.toList))/\w'=w:=by
 go_enter Tryz.func179,Tryz.ntmps179
 go_wp2
 rw [run_callFunc_extern Tryz.func188 (by kernel_rfl) (by kernel_rfl) (by kernel_rfl) (e:=Extern.BytealgCompare.compare) (by kernel_rfl),Lib.run_compareString]
 simp only [Result.andThen]
 rw [Oper.upon_value]
 go_wp2
 go_ret
 exact ⟨rfl,rfl⟩
theorem Ec (a b:ByteArray) (w:World):
  Calls Tryz.prog 165 #[.string a, .string b] w fun e w'=>e= .returned (.int .i64 (Lib.compareBytes a.data.toList b.data.toList))/\w'=w:=by
 go_enter Tryz.func165,Tryz.ntmps165
 go_wp2_with (go_at_call 179;refine (Aw _ _ _).mono ?_;rintro e w' ⟨rfl,rfl⟩)
 go_ret
 exact ⟨rfl,rfl⟩
theorem Ja {k:IntKind} {i j:Int} {a b:Bool} (h:i=j) (hb:a=b):Ending.returned (.tuple #[.int k i, .bool a])= .returned (.tuple #[.int k j, .bool b]):=by rw [h,hb]
theorem Bi (p:Nat) (nm s:ByteArray) (w:World) (h:w.cell? ⟨p,0,none⟩=some (.string nm)):
  Calls Tryz.prog 164 #[.pointer (some ⟨p,0,none⟩), .string s] w fun e w'=>e= .returned (.int .i64 (Lib.compareBytes nm.data.toList s.data.toList))/\w'=w:=by
 go_enter Tryz.func164,Tryz.ntmps164
 go_wp2_with (go_at_call 165;refine (Ec _ _ _).mono ?_;rintro e w' ⟨rfl,rfl⟩)
 go_ret
 exact ⟨rfl,rfl⟩
theorem Gj (g n cap:Nat) (ps:Nat->Nat) (nms:Nat->ByteArray) (s:ByteArray) (w:World) (hn:n<=1152921504606846976)
  (hc:∀k,k < n->w.cell? ⟨g,k,none⟩=some (.pointer (some ⟨ps k,0,none⟩)))
  (hp:∀k,k < n->w.cell? ⟨ps k,0,none⟩=some (.string (nms k)))
  (hs:∀j k,j < k->k < n->Lib.compareBytes (nms k).data.toList s.data.toList < 0->Lib.compareBytes (nms j).data.toList s.data.toList < 0):
  Calls Tryz.prog 163 #[.slice (some ⟨g,0,none⟩) n cap, .string s, .func (.func 164) #[] #[]] w fun e w'=>w'=w/\
   ∃i:Nat,i<=n/\e= .returned (.tuple #[.int .i64 i, .bool (decide (i < n/\Lib.compareBytes (nms i).data.toList s.data.toList=0))])/\
    (∀k,k < i->Lib.compareBytes (nms k).data.toList s.data.toList < 0)/\(∀k,i<=k->k < n->0<=Lib.compareBytes (nms k).data.toList s.data.toList):=by
 have HC:=Lib.hid hc
 have HP:=Lib.hid hp
 have HS:=Lib.hid hs
 clear hc hp hs
 go_enter Tryz.func163,Tryz.ntmps163
 go_wp2_with fail
 go_loop [9,10] (fun vi vj=>∃i j:Nat,i<=j/\j<=n/\vi= .int .i64 i/\vj= .int .i64 j/\Hid (∀k,k < i->Lib.compareBytes (nms k).data.toList s.data.toList < 0)/\Hid (∀k,j<=k->k < n->0<=Lib.compareBytes (nms k).data.toList s.data.toList)) (fun vi vj=>(intOf vj - intOf vi).toNat)
 case atStart=>exact ⟨0,n,Nat.zero_le _,Nat.le_refl _,rfl,rfl,fun k hk=>by omega,fun k h1 h2=>by omega⟩
 case round=>
  obtain ⟨i,j,hij,hjn,rfl,rfl,H1,H2⟩:=hrel
  by_cases hlt:i < j
  ·have hcell:w.cell? ⟨g,(i+j) / 2,none⟩=some (.pointer (some ⟨ps ((i+j) / 2),0,none⟩)):=HC.out _ (by omega)
   have hname:=HP.out ((i+j) / 2) (by omega)
   by_cases hcmp:Lib.compareBytes (nms ((i+j) / 2)).data.toList s.data.toList < 0
   all_goals
    go_wp2_with (go_at_call 164;refine (Bi _ _ _ _ hname).mono ?_;rintro e w' ⟨rfl,rfl⟩)
   ·go_round
    case rel=>exact ⟨(i+j) / 2+1,j,by omega,hjn,by go_num,rfl,fun k hk=>by
     by_cases hk':k=(i+j) / 2
     ·subst hk';exact hcmp
     ·exact HS.out k _ (by omega) (by omega) hcmp,H2⟩
    case measure=>simp [intOf];omega
   ·go_round
    case rel=>exact ⟨i,(i+j) / 2,by omega,by omega,rfl,by go_num,H1,fun k h1 h2=>by
     by_cases hk':k=(i+j) / 2
     ·subst hk';omega
     ·rcases Int.lt_or_le (Lib.compareBytes (nms k).data.toList s.data.toList) 0 with h|h
      ·exact absurd (HS.out ((i+j) / 2) k (by omega) h2 h) (by omega)
      ·exact h⟩
    case measure=>simp [intOf];omega
  ·obtain rfl:i=j:=by omega
   by_cases hin:i < n
   ·have hcell:w.cell? ⟨g,i,none⟩=some (.pointer (some ⟨ps i,0,none⟩)):=HC.out _ (by omega)
    have hname:=HP.out i (by omega)
    go_wp2_with (go_at_call 164;refine (Bi _ _ _ _ hname).mono ?_;rintro e w' ⟨rfl,rfl⟩)
    go_ret2
    refine ⟨rfl,i,by omega, ?_,H1.out,H2.out⟩
    exact Ja rfl (by rw [Bool.eq_iff_iff];simp [hin])
   ·go_wp2_with fail
    go_ret2
    refine ⟨rfl,i,by omega, ?_,H1.out,H2.out⟩
    exact Ja rfl (by simp [hin])
theorem Gl (s:ByteArray) (w:World):
  Calls Tryz.prog 163 #[.slice none 0 0, .string s, .func (.func 164) #[] #[]] w fun e w'=>e= .returned (.tuple #[.int .i64 0, .bool false])/\w'=w:=by
 go_enter Tryz.func163,Tryz.ntmps163
 go_wp2_with fail
 refine wp_loop_rounds 1 ?_
 rw [rounds_succ]
 go_wp2_with fail
 go_ret2
 exact ⟨rfl,rfl⟩
end Go.Proofs.YtbnkdnlfdofepaaGreat
namespace Go.Proofs.YtbnkdnlfdofepaaGreat
abbrev cmpB:=Lib.compareBytes
theorem yX:∀a:Bs,cmpB a a=0
 |[]=>rfl
 |x::a=>by simp [cmpB,Lib.compareBytes,UInt8.lt_irrefl];exact yX a
theorem Bj (a:Bs):Lib.compareBytes a a=0:=yX a
theorem cmp_eq:∀{a b:Bs},cmpB a b=0->a=b
 |[],[],_=>rfl
 |[],_::_,h=>by simp [cmpB,Lib.compareBytes] at h
 |_::_,[],h=>by simp [cmpB,Lib.compareBytes] at h
 |x::a,y::b,h=>by
  simp only [cmpB,Lib.compareBytes] at h
  split at h
  ·cases h
  ·split at h
   ·cases h
   ·rename_i h1 h2
    rw [UInt8.le_antisymm (UInt8.not_lt.1 h2) (UInt8.not_lt.1 h1),cmp_eq h]
theorem yY:∀a b:Bs,cmpB b a= - cmpB a b
 |[],[]=>rfl
 |[],_::_=>rfl
 |_::_,[]=>rfl
 |x::a,y::b=>by
  simp only [cmpB,Lib.compareBytes]
  by_cases h1:x < y
  ·have h2:¬y < x:=UInt8.lt_asymm h1
   simp [h1,h2]
  ·by_cases h2:y < x
   ·simp [h1,h2]
   ·simp [h1,h2];exact yY a b
def bl (a b:Bs):Bool:=decide (cmpB a b < 0)
theorem uB {a b:Bs}:bl a b=true↔cmpB a b < 0:=by simp [bl]
theorem dZ (a:Bs):bl a a=false:=by simp [bl,yX]
theorem iH {a b:Bs} (h:bl a b=true):bl b a=false:=by
 rw [uB] at h
 simp only [bl,decide_eq_false_iff_not]
 rw [yY];omega
theorem qB {a b:Bs} (h:bl a b=true):a≠b:=by
 intro e;subst e;rw [dZ] at h;cases h
theorem lQ {a b:Bs} (h1:bl a b=false) (h2:bl b a=false):a=b:=by
 simp only [bl,decide_eq_false_iff_not] at h1 h2
 rw [yY] at h2
 exact cmp_eq (by omega)
theorem jT:∀{a b c:Bs},bl a b=true->bl b c=true->bl a c=true
 |[],[],_,h,_=>by simp [bl,cmpB,Lib.compareBytes] at h
 |_,[],[],_,h=>by simp [bl,cmpB,Lib.compareBytes] at h
 |[],_::_,[],_,h=>by simp [bl,cmpB,Lib.compareBytes] at h
 |[],_::_,_::_,_,_=>by simp [bl,cmpB,Lib.compareBytes]
 |_::_,[],_,h,_=>by simp [bl,cmpB,Lib.compareBytes] at h
 |_::_,_::_,[],_,h=>by simp [bl,cmpB,Lib.compareBytes] at h
 |x::a,y::b,z::c,h1,h2=>by
  have ih:= @jT a b c
  simp only [uB] at ih h1 h2 ⊢
  simp only [cmpB,Lib.compareBytes] at h1 h2 ⊢
  by_cases xy:x < y
  ·by_cases yz:y < z
   ·simp [UInt8.lt_trans xy yz]
   ·by_cases zy:z < y
    ·simp [yz,zy] at h2
    ·have e:y=z:=UInt8.le_antisymm (UInt8.not_lt.1 zy) (UInt8.not_lt.1 yz)
     subst e;simp [xy]
  ·by_cases yx:y < x
   ·simp [xy,yx] at h1
   ·have e:x=y:=UInt8.le_antisymm (UInt8.not_lt.1 yx) (UInt8.not_lt.1 xy)
    subst e
    simp only [UInt8.lt_irrefl,if_false] at h1
    by_cases yz:x < z
    ·simp [yz]
    ·by_cases zy:z < x
     ·simp [yz,zy] at h2
     ·simp only [yz,zy,if_false] at h2 ⊢
      exact ih h1 h2
theorem Bl {a b:Bs} (h:bl a b=false) (hne:a≠b):bl b a=true:=by
 cases h':bl b a with
 |true=>rfl
 |false=>exact absurd (lQ h h') hne
section
variable {α:Type} (key:α->Bs)
def ay (l:List α):Prop:=l.Pairwise fun x y=>bl (key x) (key y)=true
def dC (l:List α) (f:α):List α:=l.filter (fun x=>bl (key x) (key f))++f::l.filter (fun x=>bl (key f) (key x))
def bC (l:List α) (s:Bs):List α:=l.filter fun x=>key x !=s
def aO (l:List α) (s:Bs):Option α:=l.find? fun x=>key x==s
def dE (l:List α) (s:Bs) (g:α->α):List α:=l.map fun x=>if key x=s then g x else x
variable {key}
theorem ay.cut {l:List α} (h:ay key l) (s:Bs) (i:Nat) (hi:i<=l.length) (h1:∀(k:Nat) (hk:k < l.length),k < i->bl (key l[k]) s=true) (h2:∀(k:Nat) (hk:k < l.length),i<=k->bl (key l[k]) s=false):
  l.take i=l.filter (fun x=>bl (key x) s)/\l.drop i=l.filter (fun x=> !bl (key x) s):=by
 have e1:∀x∈l.take i,bl (key x) s=true:=by
  intro x hx
  obtain ⟨k,hk,rfl⟩:=List.mem_iff_getElem.1 hx
  rw [List.length_take] at hk
  rw [List.getElem_take]
  exact h1 k (by omega) (by omega)
 have e2:∀x∈l.drop i,bl (key x) s=false:=by
  intro x hx
  obtain ⟨k,hk,rfl⟩:=List.mem_iff_getElem.1 hx
  simp at hk
  rw [List.getElem_drop]
  exact h2 _ (by omega) (by omega)
 constructor
 ·conv=>rhs;rw [<-List.take_append_drop i l]
  rw [List.filter_append,List.filter_eq_self.2 e1,List.filter_eq_nil_iff.2 (fun x hx=>by simp [e2 x hx]),List.append_nil]
 ·conv=>rhs;rw [<-List.take_append_drop i l]
  rw [List.filter_append,List.filter_eq_nil_iff.2 (fun x hx=>by simp [e1 x hx]),List.nil_append,List.filter_eq_self.2 (fun x hx=>by simp [e2 x hx])]
theorem ay.filter {l:List α} (h:ay key l) (p:α->Bool):ay key (l.filter p):=List.Pairwise.filter p h
theorem ui {l:List α} {s:Bs} (h:∀x∈l,key x≠s):l.filter (fun x=> !bl (key x) s)=l.filter (fun x=>bl s (key x)):=by
 apply List.filter_congr
 intro x hx
 cases h1:bl (key x) s with
 |true=>simp [iH h1]
 |false=>simp [Bl h1 (h x hx)]
theorem ay.xE {l:List α} (h:ay key l) {i:Nat} (hi:i < l.length) {s:Bs} (hs:key l[i]=s) (h1:∀(k:Nat) (hk:k < l.length),k < i->bl (key l[k]) s=true):
  l.drop (i+1)=l.filter (fun x=>bl s (key x)):=by
 conv=>rhs;rw [<-List.take_append_drop (i+1) l]
 rw [List.filter_append,List.filter_eq_nil_iff.2,List.nil_append,List.filter_eq_self.2]
 ·intro x hx
  obtain ⟨k,hk,rfl⟩:=List.mem_iff_getElem.1 hx
  rw [List.length_drop] at hk
  rw [List.getElem_drop,<-hs]
  exact List.pairwise_iff_getElem.1 h i (i+1+k) hi (by omega) (by omega)
 ·intro x hx
  obtain ⟨k,hk,rfl⟩:=List.mem_iff_getElem.1 hx
  rw [List.length_take] at hk
  rw [List.getElem_take]
  by_cases hki:k=i
  ·subst hki;simp [hs,dZ]
  ·simp [iH (h1 k (by omega) (by omega))]
theorem ay.key_inj {l:List α} (h:ay key l) {i j:Nat} (hi:i < l.length) (hj:j < l.length) (e:key l[i]=key l[j]):i=j:=by
 rcases Nat.lt_trichotomy i j with h'|h'|h'
 ·exact absurd e (qB (List.pairwise_iff_getElem.1 h i j hi hj h'))
 ·exact h'
 ·exact absurd e.symm (qB (List.pairwise_iff_getElem.1 h j i hj hi h'))
theorem ay.put {l:List α} (h:ay key l) (f:α):ay key (dC key l f):=by
 unfold ay dC
 rw [List.pairwise_append]
 refine ⟨h.filter _,List.pairwise_cons.2 ⟨fun x hx=>(List.mem_filter.1 hx).2,h.filter _⟩,fun x hx y hy=> ?_⟩
 have hx':=(List.mem_filter.1 hx).2
 rcases List.mem_cons.1 hy with rfl|hy
 ·exact hx'
 ·exact jT hx' (List.mem_filter.1 hy).2
theorem iM {l:List α} {f x:α}:x∈dC key l f↔x=f\/(x∈l/\key x≠key f):=by
 unfold dC
 simp only [List.mem_append,List.mem_filter,List.mem_cons]
 constructor
 ·rintro (⟨h1,h2⟩|rfl|⟨h1,h2⟩)
  ·exact .inr ⟨h1,qB h2⟩
  ·exact .inl rfl
  ·exact .inr ⟨h1,(qB h2).symm⟩
 ·rintro (rfl|⟨h1,h2⟩)
  ·exact .inr (.inl rfl)
  ·cases h3:bl (key x) (key f) with
   |true=>exact .inl ⟨h1,rfl⟩
   |false=>exact .inr (.inr ⟨h1,Bl h3 h2⟩)
theorem eu {l:List α} {s:Bs} {x:α}:x∈bC key l s↔x∈l/\key x≠s:=by simp [bC]
theorem ay.drop {l:List α} (h:ay key l) (s:Bs):ay key (bC key l s):=h.filter _
theorem get_mem {l:List α} {s:Bs} {f:α} (h:aO key l s=some f):f∈l/\key f=s:=⟨List.mem_of_find?_eq_some h,by simpa using List.find?_some h⟩
theorem get_none {l:List α} {s:Bs}:aO key l s=none↔∀x∈l,key x≠s:=by simp [aO]
theorem ay.get_of_mem {l:List α} (h:ay key l) {x:α} (hx:x∈l):aO key l (key x)=some x:=by
 cases hg:aO key l (key x) with
 |none=>exact absurd rfl (get_none.1 hg x hx)
 |some y=>
  obtain ⟨hy,e⟩:=get_mem hg
  obtain ⟨i,hi,rfl⟩:=List.mem_iff_getElem.1 hx
  obtain ⟨j,hj,rfl⟩:=List.mem_iff_getElem.1 hy
  have:=h.key_inj hj hi e
  subst this;rfl
theorem ay.sO {l:List α} (h:ay key l) {s:Bs} {x:α}:aO key l s=some x↔x∈l/\key x=s:=
 ⟨get_mem,fun ⟨hx,e⟩=>by subst e;exact h.get_of_mem hx⟩
theorem ay.get_put {l:List α} (h:ay key l) (f:α) (s:Bs):aO key (dC key l f) s=if s=key f then some f else aO key l s:=by
 split
 ·rename_i e;subst e
  exact (h.put f).get_of_mem (iM.2 (.inl rfl))
 ·rename_i e
  cases hg:aO key l s with
  |none=>
   rw [get_none] at hg ⊢
   intro x hx e'
   rcases iM.1 hx with rfl|⟨hx,_⟩
   ·exact e e'.symm
   ·exact hg x hx e'
  |some y=>
   obtain ⟨hy,rfl⟩:=get_mem hg
   exact (h.put f).get_of_mem (iM.2 (.inr ⟨hy,e⟩))
theorem ay.vk {l:List α} (h:ay key l) (t s:Bs):aO key (bC key l t) s=if s=t then none else aO key l s:=by
 split
 ·rename_i e;subst e
  rw [get_none];intro x hx;exact (eu.1 hx).2
 ·rename_i e
  cases hg:aO key l s with
  |none=>rw [get_none] at hg ⊢;intro x hx;exact hg x (eu.1 hx).1
  |some y=>
   obtain ⟨hy,rfl⟩:=get_mem hg
   exact (h.drop t).get_of_mem (eu.2 ⟨hy,e⟩)
theorem VG (l:List α) (s:Bs) (g:α->α) (hg:∀x,key (g x)=key x):(dE key l s g).map key=l.map key:=by
 unfold dE
 rw [List.map_map]
 apply List.map_congr_left
 intro x _
 simp only [Function.comp]
 split
 ·exact hg x
 ·rfl
theorem ay.VH {l m:List α} (h:ay key l) (e:m.map key=l.map key):ay key m:=by
 have h':(l.map key).Pairwise fun a b=>bl a b=true:=List.pairwise_map.2 h
 rw [<-e] at h'
 exact List.pairwise_map.1 h'
theorem ay.set {l:List α} (h:ay key l) (s:Bs) (g:α->α) (hg:∀x,key (g x)=key x):ay key (dE key l s g):=h.VH (VG l s g hg)
theorem yB (l:List α) (s:Bs) (g:α->α) (hg:∀x,key (g x)=key x) (t:Bs):aO key (dE key l s g) t=(aO key l t).map fun x=>if t=s then g x else x:=by
 unfold aO dE
 rw [List.find?_map]
 have:((fun x=>key x==t) ∘ fun x=>if key x=s then g x else x)=fun x=>key x==t:=by
  funext x;simp only [Function.comp];split<;>simp [hg]
 rw [this]
 cases hf:l.find? (fun x=>key x==t) with
 |none=>rfl
 |some x=>
  have:key x=t:=by simpa using List.find?_some hf
  simp [this]
theorem Lc {β:Type} {key':β->Bs} (φ:α->β) (hk:∀x,key' (φ x)=key x) (l:List α) (f:α):(dC key l f).map φ=dC key' (l.map φ) (φ f):=by
 simp [dC,List.filter_map,Function.comp_def,hk]
theorem map_drop {β:Type} {key':β->Bs} (φ:α->β) (hk:∀x,key' (φ x)=key x) (l:List α) (s:Bs):(bC key l s).map φ=bC key' (l.map φ) s:=by
 simp [bC,List.filter_map,Function.comp_def,hk]
theorem VI {β:Type} {key':β->Bs} (φ:α->β) (hk:∀x,key' (φ x)=key x) (l:List α) (s:Bs):aO key' (l.map φ) s=(aO key l s).map φ:=by
 simp [aO,List.find?_map,Function.comp_def,hk]
end
structure MF where
 name:Bs
 b:Bs
 synced:Nat
structure MD where
 limit:Int
 armed:Int
 down:Bool
 fs:List MF
namespace MD
def used (m:MD):Nat:=(m.fs.map fun f=>f.b.length).sum
def count (m:MD):MD:=if 0 < m.armed then {m with armed:=m.armed - 1,down:=m.armed - 1==0} else m
def get (m:MD) (s:Bs):Option MF:=aO MF.name m.fs s
def right (s:Bs):Bool:=decide (0 < s.length) && decide (s.length<=32)
def create (m:MD) (s:Bs):Int×MD:=
 if right s=false then (1,m) else if m.count.down=true then (13,m.count) else (0,{m.count with fs:=dC MF.name m.count.fs ⟨s,[],0⟩})
def append (m:MD) (s b:Bs):Int×MD:=
 match m.get s with
 |none=>(22,m)
 |some _=>if m.down=true\/m.limit - m.used < b.length then (13,m.count)
  else (if m.count.down=true then 13 else 0,{m.count with fs:=dE MF.name m.fs s fun f=>{f with b:=f.b++b}})
def sync (m:MD) (s:Bs):Int×MD:=
 match m.get s with
 |none=>(22,m)
 |some _=>if m.count.down=true then (13,m.count) else (0,{m.count with fs:=dE MF.name m.fs s fun f=>{f with synced:=f.b.length}})
def cut (m:MD) (s:Bs) (n:Int):Int×MD:=
 match m.get s with
 |none=>(22,m)
 |some f=>if n < 0\/f.b.length < n then (1,m) else if m.count.down=true then (13,m.count)
  else (0,{m.count with fs:=dE MF.name m.fs s fun f=>{f with b:=f.b.take n.toNat,synced:=n.toNat}})
def rename (m:MD) (a c:Bs):Int×MD:=
 match m.get a with
 |none=>(22,m)
 |some f=>if right c=false then (1,m) else if m.count.down=true then (13,m.count)
  else (0,{m.count with fs:=dC MF.name (bC MF.name m.fs a) {f with name:=c}})
def remove (m:MD) (s:Bs):Int×MD:=
 match m.get s with
 |none=>(22,m)
 |some _=>if m.count.down=true then (13,m.count) else (0,{m.count with fs:=bC MF.name m.fs s})
def new (n:Int):MD:=⟨n,0,false,[]⟩
structure Ok (m:MD):Prop where
 aaq:0<=m.limit
 VJ:m.limit<=16777216
 Jb:0<=m.armed
 Jc:m.armed<=9223372036854775807
 down:m.down=true->m.armed=0
 rising:ay MF.name m.fs
 room:(m.used:Int)<=m.limit
 names:∀f∈m.fs,right f.name=true
 synced:∀f∈m.fs,f.synced<=f.b.length
end MD
end Go.Proofs.YtbnkdnlfdofepaaGreat
namespace Go.Proofs.YtbnkdnlfdofepaaGreat
namespace MD
def eY (l:List MF):Nat:=(l.map fun f=>f.b.length).sum
theorem fK (f:MF) (l:List MF):eY (f::l)=f.b.length+eY l:=by simp [eY]
theorem Ed (l k:List MF):eY (l++k)=eY l+eY k:=by simp [eY]
theorem iO (m:MD):m.used=eY m.fs:=rfl
theorem xG (s:Bs):∀l:List MF,eY (l.filter fun x=>bl x.name s)+eY (l.filter fun x=>bl s x.name)=eY (bC MF.name l s)
 |[]=>rfl
 |x::l=>by
  have ih:=xG s l
  unfold bC at ih ⊢
  cases h1:bl x.name s with
  |true=>
   have h2:=iH h1
   have h3:(x.name !=s)=true:=by simpa using qB h1
   simp only [List.filter_cons,h1,h2,h3,if_true,Bool.false_eq_true,if_false,fK]
   omega
  |false=>
   cases h2:bl s x.name with
   |true=>
    have h3:(x.name !=s)=true:=by simpa using (qB h2).symm
    simp only [List.filter_cons,h1,h2,h3,if_true,Bool.false_eq_true,if_false,fK]
    omega
   |false=>
    have h3:(x.name !=s)=false:=by simpa using lQ h1 h2
    simp only [List.filter_cons,h1,h2,h3,Bool.false_eq_true,if_false]
    exact ih
theorem wU (l:List MF) (f:MF):eY (dC MF.name l f)=eY (bC MF.name l f.name)+f.b.length:=by
 unfold dC
 rw [Ed,fK,<-xG f.name l]
 omega
theorem Bo {l:List MF} {s:Bs} (h:∀x∈l,x.name≠s):bC MF.name l s=l:=by
 unfold bC;rw [List.filter_eq_self];intro x hx;simpa using h x hx
theorem Qe {l:List MF} {s:Bs} {g:MF->MF} (h:∀x∈l,x.name≠s):dE MF.name l s g=l:=by
 unfold dE;conv=>rhs;rw [<-List.map_id l]
 apply List.map_congr_left;intro x hx;rw [if_neg (h x hx)];rfl
theorem sQ {l:List MF} (hl:ay MF.name l) {s:Bs} {f:MF} (hf:aO MF.name l s=some f) (g:MF->MF):
  eY (dE MF.name l s g)=eY (bC MF.name l s)+(g f).b.length:=by
 induction l with
 |nil=>simp [aO] at hf
 |cons x l ih=>
  have hp:=List.pairwise_cons.1 hl
  by_cases hx:x.name=s
  ·have hnone:∀y∈l,y.name≠s:=fun y hy e=>by
    have:=qB (hp.1 y hy);rw [hx,e] at this;exact this rfl
   have e1:x=f:=by simpa [aO,hx] using hf
   have e2:bC MF.name (x::l) s=l:=by
    have:=Bo hnone
    unfold bC at this ⊢
    simp [List.filter_cons,hx,this]
   have e3:dE MF.name (x::l) s g=g x::l:=by
    have:=Qe (g:=g) hnone
    unfold dE at this ⊢
    simp [hx,this]
   rw [e2,e3,fK,e1];omega
  ·have hf':aO MF.name l s=some f:=by
    have:(x.name==s)=false:=by simpa using hx
    simpa [aO,List.find?_cons,this] using hf
   have:=ih hp.2 hf'
   have e2:bC MF.name (x::l) s=x::bC MF.name l s:=by
    have:(x.name !=s)=true:=by simpa using hx
    simp [bC,List.filter_cons,this]
   have e3:dE MF.name (x::l) s g=x::dE MF.name l s g:=by simp [dE,hx]
   rw [e2,e3,fK,fK,this];omega
theorem fM {l:List MF} (hl:ay MF.name l) {s:Bs} {f:MF} (hf:aO MF.name l s=some f):eY l=eY (bC MF.name l s)+f.b.length:=by
 have:=sQ hl hf id
 have e:dE MF.name l s id=l:=by
  unfold dE;conv=>rhs;rw [<-List.map_id l]
  apply List.map_congr_left;intro x _;split<;>rfl
 rw [e] at this
 exact this
theorem jO (l:List MF) (s:Bs):eY (bC MF.name l s)<=eY l:=by
 induction l with
 |nil=>exact Nat.le_refl _
 |cons x l ih=>
  unfold bC at ih ⊢
  rw [List.filter_cons]
  split
  ·rw [fK,fK];omega
  ·rw [fK];omega
theorem bT (m:MD):m.count.fs=m.fs:=by unfold count;split<;>rfl
theorem qR (m:MD):m.count.limit=m.limit:=by unfold count;split<;>rfl
theorem uC (m:MD):m.count.used=m.used:=by unfold used;rw [bT]
theorem Ok.count {m:MD} (h:Ok m):Ok m.count:=by
 obtain ⟨h1,h2,h3,h4,h5,h6,h7,h8,h9⟩:=h
 unfold MD.count
 split
 ·exact ⟨h1,h2,by simp;omega,by simp;omega,by simp,h6,h7,h8,h9⟩
 ·exact ⟨h1,h2,h3,h4,h5,h6,h7,h8,h9⟩
theorem Ok.files {m:MD} (h:Ok m) (fs:List MF) (h1:ay MF.name fs) (h2:(eY fs:Int)<=m.limit) (h3:∀f∈fs,right f.name=true) (h4:∀f∈fs,f.synced<=f.b.length):Ok {m with fs:=fs}:=
 ⟨h.aaq,h.VJ,h.Jb,h.Jc,h.down,h1,h2,h3,h4⟩
theorem Ok.fill {m:MD} (h:Ok m):(MD.eY m.fs:Int)<=m.limit:=h.room
theorem mem_set {l:List MF} {s:Bs} {g:MF->MF} {x:MF} (h:x∈dE MF.name l s g):(x∈l/\x.name≠s)\/∃y∈l,y.name=s/\x=g y:=by
 unfold dE at h
 obtain ⟨y,hy,rfl⟩:=List.mem_map.1 h
 by_cases e:y.name=s
 ·exact .inr ⟨y,hy,e,by rw [if_pos e]⟩
 ·left;rw [if_neg e];exact ⟨hy,e⟩
theorem Ok.set {m:MD} (h:Ok m) {s:Bs} {f:MF} (hf:m.get s=some f) (g:MF->MF) (hn:∀x,(g x).name=x.name) (hb:(m.used:Int)+(g f).b.length<=m.limit+f.b.length) (hs:∀x,x∈m.fs->(g x).synced<=(g x).b.length):Ok {m with fs:=dE MF.name m.fs s g}:=by
 refine h.files _ (h.rising.set s g hn) ?_ ?_ ?_
 ·have h1:=sQ h.rising hf g
  have h2:=fM h.rising hf
  rw [iO] at hb
  omega
 ·intro x hx
  rcases mem_set hx with ⟨hx,_⟩|⟨y,hy,_,rfl⟩
  ·exact h.names x hx
  ·rw [hn];exact h.names y hy
 ·intro x hx
  rcases mem_set hx with ⟨hx,_⟩|⟨y,hy,_,rfl⟩
  ·exact h.synced x hx
  ·exact hs y hy
theorem Ok.put {m:MD} (h:Ok m) (f:MF) (hn:right f.name=true) (hb:(MD.eY (bC MF.name m.fs f.name):Int)+f.b.length<=m.limit) (hs:f.synced<=f.b.length):Ok {m with fs:=dC MF.name m.fs f}:=by
 refine h.files _ (h.rising.put f) (by rw [wU];omega) ?_ ?_
 ·intro x hx
  rcases iM.1 hx with rfl|⟨hx,_⟩
  ·exact hn
  ·exact h.names x hx
 ·intro x hx
  rcases iM.1 hx with rfl|⟨hx,_⟩
  ·exact hs
  ·exact h.synced x hx
theorem Ok.drop {m:MD} (h:Ok m) (s:Bs):Ok {m with fs:=bC MF.name m.fs s}:=
 h.files _ (h.rising.drop s) (by have:=jO m.fs s;have:=h.fill;omega) (fun x hx=>h.names x (eu.1 hx).1) (fun x hx=>h.synced x (eu.1 hx).1)
theorem wV (m:MD) (s:Bs):m.count.get s=m.get s:=by unfold get;rw [bT]
theorem Ok.create {m:MD} (h:Ok m) (s:Bs):Ok (m.create s).2:=by
 unfold MD.create
 split
 ·exact h
 ·split
  ·exact h.count
  ·rename_i h1 h2
   have hc:=h.count
   exact hc.put ⟨s,[],0⟩ (by simpa using h1) (by have h1:=jO m.count.fs s;have h2:=hc.fill;simp only [List.length_nil];omega) (Nat.le_refl _)
theorem Ok.append {m:MD} (h:Ok m) (s b:Bs):Ok (m.append s b).2:=by
 unfold MD.append
 cases hg:m.get s with
 |none=>exact h
 |some f=>
  dsimp only
  split
  ·exact h.count
  ·rename_i h1
   have hc:=h.count
   have:=hc.set (s:=s) (f:=f) (by rw [wV];exact hg) (fun f=>{f with b:=f.b++b}) (fun _=>rfl) (by rw [uC,qR];simp;simp at h1;omega) (fun x hx=>by
    have:=hc.synced x hx;simp;omega)
   rw [bT] at this
   exact this
theorem Ok.sync {m:MD} (h:Ok m) (s:Bs):Ok (m.sync s).2:=by
 unfold MD.sync
 cases hg:m.get s with
 |none=>exact h
 |some f=>
  dsimp only
  split
  ·exact h.count
  ·have hc:=h.count
   have hr:=hc.room
   have:=hc.set (s:=s) (f:=f) (by rw [wV];exact hg) (fun f=>{f with synced:=f.b.length}) (fun _=>rfl) (by simp;omega) (fun x hx=>by simp)
   rw [bT] at this
   exact this
theorem Ok.cut {m:MD} (h:Ok m) (s:Bs) (n:Int):Ok (m.cut s n).2:=by
 unfold MD.cut
 cases hg:m.get s with
 |none=>exact h
 |some f=>
  dsimp only
  split
  ·exact h
  ·split
   ·exact h.count
   ·rename_i h1 _
    have hc:=h.count
    have hr:=hc.room
    refine (show Ok {m.count with fs:=dE MF.name m.fs s fun f=>{f with b:=f.b.take n.toNat,synced:=n.toNat}} from ?_)
    have hf:=get_mem (key:=MF.name) hg
    have e:dE MF.name m.fs s (fun f=>{f with b:=f.b.take n.toNat,synced:=n.toNat})=dE MF.name m.fs s (fun f'=>{f' with b:=f'.b.take n.toNat,synced:=min n.toNat f'.b.length}):=by
     unfold dE
     apply List.map_congr_left
     intro x hx
     split
     ·rename_i e
      have:aO MF.name m.fs s=some x:=(h.rising.sO).2 ⟨hx,e⟩
      have hxf:x=f:=by
       have hg':aO MF.name m.fs s=some f:=hg
       rw [hg'] at this;exact (Option.some.inj this).symm
      subst hxf
      have:min n.toNat x.b.length=n.toNat:=Nat.min_eq_left (by omega)
      simp only [this]
     ·rfl
    rw [e]
    have:=hc.set (s:=s) (f:=f) (by rw [wV];exact hg) (fun f'=>{f' with b:=f'.b.take n.toNat,synced:=min n.toNat f'.b.length}) (fun _=>rfl) (by simp;omega) (fun x hx=>by simp)
    rw [bT] at this
    exact this
theorem Ok.rename {m:MD} (h:Ok m) (a c:Bs):Ok (m.rename a c).2:=by
 unfold MD.rename
 cases hg:m.get a with
 |none=>exact h
 |some f=>
  dsimp only
  split
  ·exact h
  ·split
   ·exact h.count
   ·rename_i h1 _
    have hd:=h.count.drop a
    have hu:=fM h.count.rising (s:=a) (f:=f) (by rw [bT];exact hg)
    have hr:=h.count.room
    have hle:=jO (bC MF.name m.count.fs a) c
    have hf:=get_mem (key:=MF.name) hg
    rw [iO] at hr
    have:=hd.put {f with name:=c} (by simpa using h1) (by simp only [bT] at*;omega) (h.synced f hf.1)
    simp only [bT] at this
    exact this
theorem Ok.remove {m:MD} (h:Ok m) (s:Bs):Ok (m.remove s).2:=by
 unfold MD.remove
 cases hg:m.get s with
 |none=>exact h
 |some f=>
  dsimp only
  split
  ·exact h.count
  ·have:=h.count.drop s
   rw [bT] at this
   exact this
theorem Ok.new {n:Int} (h0:0<=n) (h1:n<=16777216):Ok (MD.new n):=
 ⟨h0,h1,by simp [MD.new],by simp [MD.new],by simp [MD.new],by simp [MD.new,ay],by simpa [MD.new,used] using h0,by simp [MD.new],by simp [MD.new]⟩
end MD
end Go.Proofs.YtbnkdnlfdofepaaGreat
namespace Go.Proofs.YtbnkdnlfdofepaaGreat
open Go.RowKit
set_option maxRecDepth 100000
def uD (p:Nat):Value:= .pointer (some ⟨p,0,none⟩)
structure FM where
 p:Nat
 name:ByteArray
 v:Value
 b:Bs
 synced:Nat
 ob:Option Nat
instance:Inhabited FM:=⟨⟨0,default, .nilFunc,[],0,none⟩⟩
def FM.abs (f:FM):MF:=⟨f.name.data.toList,f.b,f.synced⟩
def FM.key (f:FM):Bs:=f.name.data.toList
structure dY (w:World) (f:FM):Prop where
 blk:Blk w f.p #[.string f.name,f.v, .int .i64 f.synced] 127
 own:Own w 5 1 f.v f.b.length (f.b.map bv) f.ob
structure Lay (w:World) (d:Nat) (m:MD) (v:Value) (ga:Option Nat) (fs:List FM):Prop where
 disk:Blk w d #[.int .i64 m.limit,v, .int .i64 m.armed, .bool m.down] 124
 arr:Own w 125 1 v fs.length (fs.map fun f=>uD f.p) ga
 files:∀f∈fs,dY w f
 abs:m.fs=fs.map FM.abs
 pn:(fs.map FM.p).Nodup
 bn:(fs.filterMap FM.ob).Nodup
 ok:m.Ok
def DS (d:Nat) (ga:Option Nat) (fs:List FM):Nat->Prop:=fun b=>b=d\/ga=some b\/∃f∈fs,b=f.p\/f.ob=some b
def bQ (w:World) (d:Nat) (m:MD) (S:Nat->Prop):Prop:=∃v ga fs,Lay w d m v ga fs/\S=DS d ga fs
theorem dY.same {w w':World} {f:FM} (h:dY w f) (hp:w'.heap[f.p]?=w.heap[f.p]?) (ho:∀g,f.ob=some g->w'.heap[g]?=w.heap[g]?):dY w' f:=⟨h.blk.same hp,h.own.same ho⟩
theorem dY.upd {S:Nat->Prop} {w w':World} {f:FM} (h:dY w f) (hu:Upd S w w') (hp:¬S f.p) (ho:∀g,f.ob=some g->¬S g):dY w' f:=⟨h.blk.upd hu hp,h.own.upd hu ho⟩
theorem Lay.upd {S:Nat->Prop} {w w':World} {d:Nat} {m:MD} {v:Value} {ga:Option Nat} {fs:List FM} (h:Lay w d m v ga fs) (hu:Upd S w w') (hs:∀b,DS d ga fs b->¬S b):Lay w' d m v ga fs:=
 ⟨h.disk.upd hu (hs _ (.inl rfl)),h.arr.upd hu (fun g hg=>hs g (.inr (.inl hg))),fun f hf=>(h.files f hf).upd hu (hs _ (.inr (.inr ⟨f,hf, .inl rfl⟩))) (fun g hg=>hs g (.inr (.inr ⟨f,hf, .inr hg⟩))),h.abs,h.pn,h.bn,h.ok⟩
theorem bQ.upd {S T:Nat->Prop} {w w':World} {d:Nat} {m:MD} (h:bQ w d m T) (hu:Upd S w w') (hs:∀b,T b->¬S b):bQ w' d m T:=by
 obtain ⟨v,ga,fs,hl,rfl⟩:=h
 exact ⟨v,ga,fs,hl.upd hu hs,rfl⟩
theorem bQ.below {T:Nat->Prop} {w w':World} {d:Nat} {m:MD} (h:bQ w d m T) (hu:Below w.heap.size w w'):bQ w' d m T:=h.upd (S:=dG) (Upd.of_below hu) (fun _ _ h=>h)
theorem Lay.lt {w:World} {d:Nat} {m:MD} {v:Value} {ga:Option Nat} {fs:List FM} (h:Lay w d m v ga fs) {b:Nat} (hb:DS d ga fs b):b < w.heap.size:=by
 rcases hb with rfl|hb|⟨f,hf,rfl|hb⟩
 ·exact h.disk.lt
 ·exact h.arr.lt _ hb
 ·exact (h.files f hf).blk.lt
 ·exact (h.files f hf).own.lt _ hb
theorem bQ.lt {S:Nat->Prop} {w:World} {d:Nat} {m:MD} (h:bQ w d m S) {b:Nat} (hb:S b):b < w.heap.size:=by
 obtain ⟨v,ga,fs,hl,rfl⟩:=h;exact hl.lt hb
theorem bQ.ok {S:Nat->Prop} {w:World} {d:Nat} {m:MD} (h:bQ w d m S):m.Ok:=by
 obtain ⟨v,ga,fs,hl,rfl⟩:=h;exact hl.ok
theorem Lay.rising {w:World} {d:Nat} {m:MD} {v:Value} {ga:Option Nat} {fs:List FM} (h:Lay w d m v ga fs):ay FM.key fs:=by
 have:=h.ok.rising
 rw [h.abs] at this
 exact List.pairwise_map.1 this
theorem Own.blk {w:World} {e:TypeId} {size n:Nat} {v:Value} {xs:List Value} {g:Nat} (h:Own w e size v n xs (some g)):∃cur,Blk w g cur e:=by
 rcases h.2 with ⟨_,_,h'⟩|⟨g',_,cur,_,h',hb,_⟩
 ·cases h'
 ·cases h';exact ⟨cur,hb⟩
theorem Lay.vw {w:World} {d:Nat} {m:MD} {v:Value} {ga:Option Nat} {fs:List FM} (h:Lay w d m v ga fs):ga≠some d:=by
 intro e;subst e;obtain ⟨cur,hb⟩:=h.arr.blk;exact h.disk.ty hb (by decide) rfl
theorem Lay.Qg {w:World} {d:Nat} {m:MD} {v:Value} {ga:Option Nat} {fs:List FM} (h:Lay w d m v ga fs) {f:FM} (hf:f∈fs):f.p≠d:=by
 intro e;exact h.disk.ty (h.files f hf).blk (by decide) e.symm
theorem Lay.Ld {w:World} {d:Nat} {m:MD} {v:Value} {ga:Option Nat} {fs:List FM} (h:Lay w d m v ga fs) {f:FM} (hf:f∈fs):f.ob≠some d:=by
 intro e;have ho:=(h.files f hf).own;rw [e] at ho;obtain ⟨cur,hb⟩:=ho.blk;exact h.disk.ty hb (by decide) rfl
theorem Lay.Qh {w:World} {d:Nat} {m:MD} {v:Value} {ga:Option Nat} {fs:List FM} (h:Lay w d m v ga fs) {f:FM} (hf:f∈fs):ga≠some f.p:=by
 intro e;subst e;obtain ⟨cur,hb⟩:=h.arr.blk;exact hb.ty (h.files f hf).blk (by decide) rfl
theorem Lay.NH {w:World} {d:Nat} {m:MD} {v:Value} {ga:Option Nat} {fs:List FM} (h:Lay w d m v ga fs) {f:FM} (hf:f∈fs) {g:Nat} (hg:f.ob=some g):ga≠some g:=by
 intro e;subst e;obtain ⟨cur,hb⟩:=h.arr.blk;have ho:=(h.files f hf).own;rw [hg] at ho;obtain ⟨cur',hb'⟩:=ho.blk;exact hb.ty hb' (by decide) rfl
theorem Lay.pY {w:World} {d:Nat} {m:MD} {v:Value} {ga:Option Nat} {fs:List FM} (h:Lay w d m v ga fs) {f f':FM} (hf:f∈fs) (hf':f'∈fs):f'.ob≠some f.p:=by
 intro e;have ho:=(h.files f' hf').own;rw [e] at ho;obtain ⟨cur,hb⟩:=ho.blk;exact (h.files f hf).blk.ty hb (by decide) rfl
theorem fU {fs:List FM} {k:Nat} (hk:k < fs.length):fs[k]! =fs[k]:=getElem!_pos fs k hk
def lbn (fs:List FM) (s:Bs):Nat:=(fs.filter fun f=>bl f.key s).length
theorem Own.cellAt {w:World} {e:TypeId} {size n cap g:Nat} {xs:List Value} {ob:Option Nat} (h:Own w e size (.slice (some ⟨g,0,none⟩) n cap) n xs ob) {j:Nat} {u:Value} (hu:xs[j]?=some u):w.cell? ⟨g,j,none⟩=some u:=by
 have:=h.rd.cell rfl hu
 simpa using this
theorem vz {w:World} {d:Nat} {m:MD} {v:Value} {ga:Option Nat} {fs:List FM} (h:Lay w d m v ga fs) (s:ByteArray) (hn:fs.length<=1099511627776):
  Calls Tryz.prog 135 #[.pointer (some ⟨d,0,none⟩), .string s] w fun e w'=>e= .returned (.tuple #[.int .i64 (lbn fs s.data.toList), .bool (aO FM.key fs s.data.toList).isSome])/\w'=w:=by
 have hc1:w.cell? ⟨d,1,none⟩=some v:=h.disk.cell 1
 have hr:=h.rising
 have ho:=h.arr
 have hfs:=h.files
 have key:∀i:Nat,i<=fs.length->(∀k,k < i->Lib.compareBytes (fs[k]!).name.data.toList s.data.toList < 0)->(∀k,i<=k->k < fs.length->0<=Lib.compareBytes (fs[k]!).name.data.toList s.data.toList)->
   i=lbn fs s.data.toList/\decide (i < fs.length/\Lib.compareBytes (fs[i]!).name.data.toList s.data.toList=0)=(aO FM.key fs s.data.toList).isSome:=by
  intro i hi h1 h2
  obtain ⟨c1,c2⟩:=hr.cut s.data.toList i hi (fun k hk hki=>by have:=h1 k hki;rw [fU hk] at this;exact uB.2 this) (fun k hk hki=>by
   have:=h2 k hki hk;rw [fU hk] at this
   simp only [bl,decide_eq_false_iff_not];exact Int.not_lt.2 this)
  refine ⟨?_, ?_⟩
  ·have:=congrArg List.length c1
   rw [List.length_take] at this
   unfold lbn
   omega
  ·rw [Bool.eq_iff_iff]
   simp only [decide_eq_true_eq]
   constructor
   ·rintro ⟨hlt,he⟩
    rw [fU hlt] at he
    have:aO FM.key fs s.data.toList=some fs[i]:=hr.sO.2 ⟨List.getElem_mem hlt,cmp_eq he⟩
    rw [this];rfl
   ·intro hs
    obtain ⟨f,hf⟩:=Option.isSome_iff_exists.1 hs
    obtain ⟨hm,hk⟩:=get_mem hf
    obtain ⟨k,hk',rfl⟩:=List.mem_iff_getElem.1 hm
    have hik:¬k < i:=fun hki=>by
     have:=h1 k hki
     rw [fU hk'] at this
     have e:(fs[k]).name.data.toList=s.data.toList:=hk
     rw [e] at this
     rw [Bj] at this;omega
    have hki:¬i < k:=fun hki=>by
     have hlt:i < fs.length:=by omega
     have hb:=List.pairwise_iff_getElem.1 hr i k hlt hk' hki
     rw [hk] at hb
     have:=h2 i (Nat.le_refl _) hlt
     rw [fU hlt] at this
     rw [uB] at hb
     exact absurd hb (Int.not_lt.2 this)
    obtain rfl:k=i:=by omega
    refine ⟨hk', ?_⟩
    rw [fU hk']
    have e:(fs[k]).name.data.toList=s.data.toList:=hk
    rw [e,Bj]
 have KEY:=Lib.hid key
 rcases ho.2 with ⟨rfl,h0,_⟩|⟨g,cap,cur,rfl,_,_⟩
 ·have hk:=key 0 (Nat.zero_le _) (fun k hk=>absurd hk (Nat.not_lt_zero _)) (fun k _ hk=>by omega)
  have e1:lbn fs s.data.toList=0:=hk.1.symm
  have e2:(aO FM.key fs s.data.toList).isSome=false:=by rw [<-hk.2];simp;omega
  rw [e1,e2]
  clear hk e1 e2 key h0 KEY ho hfs hr h
  go_enter Tryz.func135,Tryz.ntmps135
  go_wp2_with (go_at_call 163;refine (Gl _ _).mono ?_;rintro e w' ⟨rfl,rfl⟩)
  go_ret2
  exact ⟨rfl,rfl⟩
 ·have cs:∀k,k < fs.length->w.cell? ⟨g,k,none⟩=some (.pointer (some ⟨(fs[k]!).p,0,none⟩)):=fun k hk=>ho.cellAt (by rw [List.getElem?_map,List.getElem?_eq_getElem hk,fU hk];rfl)
  have ns:∀k,k < fs.length->w.cell? ⟨(fs[k]!).p,0,none⟩=some (.string (fs[k]!).name):=fun k hk=>by
   rw [fU hk];exact (hfs _ (List.getElem_mem hk)).blk.cell 0
  have ss:∀j k,j < k->k < fs.length->Lib.compareBytes (fs[k]!).name.data.toList s.data.toList < 0->Lib.compareBytes (fs[j]!).name.data.toList s.data.toList < 0:=fun j k hjk hk hc=>by
   have hj:j < fs.length:=by omega
   rw [fU hk] at hc
   rw [fU hj]
   exact uB.1 (jT (List.pairwise_iff_getElem.1 hr j k hj hk hjk) (uB.2 hc))
  have CON:=Lib.hid (Gj g fs.length cap (fun k=>(fs[k]!).p) (fun k=>(fs[k]!).name) s w (by omega) cs ns ss)
  clear key cs ns ss ho hr hfs
  go_enter Tryz.func135,Tryz.ntmps135
  go_wp2_with (go_at_call 163;refine CON.out.mono ?_;rintro e w' ⟨rfl,i,hi,rfl,h1,h2⟩)
  go_ret2
  have hk:=KEY.out i hi h1 h2
  refine ⟨?_,rfl⟩
  exact Ja (by rw [hk.1]) (by rw [<-hk.2];simp)
end Go.Proofs.YtbnkdnlfdofepaaGreat
namespace Go.Proofs.YtbnkdnlfdofepaaGreat
open Go.RowKit
set_option maxRecDepth 100000
theorem yZ {fs:List FM} (hr:ay FM.key fs) {f:FM} (hf:f∈fs):∃h:lbn fs f.key < fs.length,fs[lbn fs f.key]=f:=by
 obtain ⟨k,hk,rfl⟩:=List.mem_iff_getElem.1 hf
 have hc:=hr.cut (fs[k]).key k (by omega) (fun j hj hjk=>List.pairwise_iff_getElem.1 hr j k hj hk hjk) (fun j hj hkj=>by
  by_cases e:j=k
  ·subst e;exact dZ _
  ·exact iH (List.pairwise_iff_getElem.1 hr k j hk hj (by omega)))
 have:lbn fs (fs[k]).key=k:=by
  have:=congrArg List.length hc.1
  rw [List.length_take] at this
  unfold lbn;omega
 simp only [this]
 exact ⟨hk,trivial⟩
theorem Y0 (fs:List FM) (s:Bs):lbn fs s<=fs.length:=List.length_filter_le _ _
theorem y8 (s:ByteArray) (w:World):Calls Tryz.prog 92 #[.string s] w fun e w'=>e= .returned (.bool (MD.right s.data.toList))/\w'=w:=by
 have hs:s.data.toList.length=s.size:=by simp
 unfold MD.right
 rw [hs]
 clear hs
 by_cases h:0 < s.size
 all_goals
  go_enter Tryz.func92,Tryz.ntmps92
  go_wp2
  go_ret
  simp [h]
  try omega
theorem kZ {w:World} {d:Nat} {m:MD} {v:Value} {ga:Option Nat} {fs:List FM} (h:Lay w d m v ga fs) (s:ByteArray) (hn:fs.length<=1099511627776) {f:FM} (hf:aO FM.key fs s.data.toList=some f):
  Calls Tryz.prog 95 #[.pointer (some ⟨d,0,none⟩), .string s] w fun e w'=>e= .returned (.pointer (some ⟨f.p,0,none⟩))/\w'=w:=by
 have hc1:w.cell? ⟨d,1,none⟩=some v:=h.disk.cell 1
 have CON:=vz h s hn
 obtain ⟨hm,hk⟩:=get_mem hf
 obtain ⟨hlt,hat⟩:=yZ h.rising hm
 rw [hk] at hlt
 have hat':fs[lbn fs s.data.toList]=f:=by simp only [hk] at hat;exact hat
 rw [hf] at CON
 obtain ⟨g,cap,cur,hv,_,_,_,_,_⟩:=h.arr.x8 (by omega)
 subst hv
 have hcell:w.cell? ⟨g,lbn fs s.data.toList,none⟩=some (.pointer (some ⟨f.p,0,none⟩)):=h.arr.cellAt (by rw [List.getElem?_map,List.getElem?_eq_getElem hlt,hat'];rfl)
 generalize lbn fs s.data.toList=i at*
 have Ee:=Lib.hid CON
 clear CON h hf hm hk hat hat'
 go_enter Tryz.func95,Tryz.ntmps95
 go_wp2_with (go_at_call 135;refine Ee.out.mono ?_;rintro e w' ⟨rfl,rfl⟩)
 go_ret
 exact ⟨rfl,rfl⟩
theorem lg {w:World} {d:Nat} {m:MD} {v:Value} {ga:Option Nat} {fs:List FM} (h:Lay w d m v ga fs) (s:ByteArray) (hn:fs.length<=1099511627776) (hf:aO FM.key fs s.data.toList=none):
  Calls Tryz.prog 95 #[.pointer (some ⟨d,0,none⟩), .string s] w fun e w'=>e= .returned (.pointer none)/\w'=w:=by
 have CON:=vz h s hn
 rw [hf] at CON
 have Ee:=Lib.hid CON
 clear CON h hf
 go_enter Tryz.func95,Tryz.ntmps95
 go_wp2_with (go_at_call 135;refine Ee.out.mono ?_;rintro e w' ⟨rfl,rfl⟩)
 go_ret
 exact ⟨rfl,rfl⟩
def uj (m:MD) (v:Value):Array Value:= #[.int .i64 m.limit,v, .int .i64 m.armed, .bool m.down]
theorem lh {w:World} {d:Nat} {m:MD} {v:Value} (h:Blk w d (uj m v) 124) (h0:0<=m.armed) (h1:m.armed<=9223372036854775807):
  Calls Tryz.prog 93 #[.pointer (some ⟨d,0,none⟩)] w fun e w'=>e= .returned (.bool (!m.count.down))/\Blk w' d (uj m.count v) 124/\Upd (fun b=>b=d) w w':=by
 have c2:w.cell? ⟨d,2,none⟩=some (.int .i64 m.armed):=h.cell 2
 have c3:w.cell? ⟨d,3,none⟩=some (.bool m.down):=h.cell 3
 have f2:=h.frozen 2
 have f3:=h.frozen 3
 obtain ⟨lim,armed,down,fs⟩:=m
 dsimp only at*
 by_cases hp:0 < armed
 ·have hfin:Blk ((w.setCell ⟨d,2,none⟩ (.int .i64 (armed - 1))).setCell ⟨d,3,none⟩ (.bool (armed - 1==0))) d (uj (MD.count ⟨lim,armed,down,fs⟩) v) 124:=by
   have:=(h.set 2 (.int .i64 (armed - 1))).set 3 (.bool (armed - 1==0))
   simpa [uj,MD.count,hp] using this
  have hret:(!(MD.count ⟨lim,armed,down,fs⟩).down)= !(armed - 1==0):=by simp [MD.count,hp]
  rw [hret]
  have HF:=Lib.hid hfin
  clear hfin hret h
  go_enter Tryz.func93,Tryz.ntmps93
  go_wp2
  go_ret
  exact ⟨rfl,HF.out,((Upd.refl (fun b=>b=d) w).setCell (p:=⟨d,2,none⟩) (.inl rfl) _).setCell (p:=⟨d,3,none⟩) (.inl rfl) _⟩
 ·have hret:(MD.count ⟨lim,armed,down,fs⟩)=⟨lim,armed,down,fs⟩:=by simp [MD.count,hp]
  rw [hret]
  have HF:=Lib.hid h
  clear hret h
  go_enter Tryz.func93,Tryz.ntmps93
  go_wp2
  go_ret
  exact ⟨rfl,HF.out,Upd.refl _ _⟩
def lens (fs:List FM) (k:Nat):Nat:=((fs.take k).map fun f=>f.b.length).sum
theorem NI (fs:List FM) {k:Nat} (hk:k < fs.length):lens fs (k+1)=lens fs k+(fs[k]).b.length:=by
 unfold lens
 rw [List.take_succ_eq_append_getElem hk,List.map_append,List.sum_append];simp
theorem VK (fs:List FM) (k:Nat):lens fs k<=lens fs fs.length:=by
 unfold lens
 rw [List.take_length]
 conv=>rhs;rw [<-List.take_append_drop k fs,List.map_append,List.sum_append]
 omega
theorem Lay.used {w:World} {d:Nat} {m:MD} {v:Value} {ga:Option Nat} {fs:List FM} (h:Lay w d m v ga fs):m.used=lens fs fs.length:=by
 unfold MD.used lens;rw [h.abs,List.map_map,List.take_length];rfl
theorem dY.slice {w:World} {f:FM} (h:dY w f):∃a c,f.v= .slice a f.b.length c/\f.b.length<=c/\c<=maxLen:=by
 obtain ⟨_,_,a,c,hv,h1,h2,_⟩:=h.own.rd
 exact ⟨a,c,hv,h1,h2⟩
set_option maxHeartbeats 400000 in
theorem Gm {w:World} {d:Nat} {m:MD} {v:Value} {ga:Option Nat} {fs:List FM} (h:Lay w d m v ga fs) (hn:fs.length<=1099511627776):
  Calls Tryz.prog 96 #[.pointer (some ⟨d,0,none⟩)] w fun e w'=>e= .returned (.int .i64 m.used)/\w'=w:=by
 have hc1:w.cell? ⟨d,1,none⟩=some v:=h.disk.cell 1
 have hlim:=h.ok.room
 have XQ:=h.ok.VJ
 have hu:=h.used
 have hb:lens fs fs.length<=16777216:=by omega
 rw [hu]
 have HB:=Lib.hid hb
 have H:=Lib.hid h
 clear hlim XQ hu hb h
 rcases H.out.arr.2 with ⟨rfl,h0,_⟩|⟨g,cap,cur,rfl,_,_,hcap,hcm,_⟩
 ·have e:fs=[]:=List.eq_nil_of_length_eq_zero h0
  subst e
  go_enter Tryz.func96,Tryz.ntmps96
  go_wp2
  refine wp_loop_rounds 1 ?_
  rw [rounds_succ]
  go_wp2_with fail
  go_ret
  exact ⟨rfl,rfl⟩
 ·go_enter Tryz.func96,Tryz.ntmps96
  go_wp2
  go_loop [3,11] (fun n i=>∃k:Nat,k<=fs.length/\i= .int .i64 k/\n= .int .i64 (lens fs k)) (fun _ i=>fs.length - (intOf i).toNat)
  case atStart=>exact ⟨0,Nat.zero_le _,rfl,rfl⟩
  case round=>
   obtain ⟨k,hk,rfl,rfl⟩:=hrel
   by_cases hlt:k < fs.length
   ·have hs:=NI fs hlt
    have hle:=VK fs (k+1)
    have hB:=HB.out
    obtain ⟨a,c,hv,h1,h2⟩:=(H.out.files _ (List.getElem_mem hlt)).slice
    have c1:w.cell? ⟨g,k,none⟩=some (.pointer (some ⟨(fs[k]).p,0,none⟩)):=H.out.arr.cellAt (by rw [List.getElem?_map,List.getElem?_eq_getElem hlt];rfl)
    have c2:w.cell? ⟨(fs[k]).p,1,none⟩=some (.slice a (fs[k]).b.length c):=by rw [<-hv];exact (H.out.files _ (List.getElem_mem hlt)).blk.cell 1
    have HS:=Lib.hid hs
    generalize (fs[k]).b.length=y at*
    have hxy:lens fs k+y<=16777216:=by have:=HS.out;omega
    generalize (fs[k]).p=pp at*
    clear hle hB hv hs
    go_wp2
    go_round
    case rel=>exact ⟨k+1,by omega,by go_num,by rw [HS.out];go_num⟩
    case measure=>simp [intOf];omega
   ·obtain rfl:k=fs.length:=by omega
    go_wp2
    go_ret
    exact ⟨rfl,rfl⟩
end Go.Proofs.YtbnkdnlfdofepaaGreat
namespace Go.Proofs.YtbnkdnlfdofepaaGreat.aar
open Go.RowKit
set_option maxRecDepth 100000
theorem Gn:(Tryz.prog.info? 125).map (fun i=>(i.zero,i.size,i.bytes))=some (some (.pointer none),1,8):=by kernel_rfl
theorem uk:(Tryz.prog.info? 125).map (·.size)=some 1:=by kernel_rfl
set_option maxHeartbeats 400000 in
theorem Jd (v:Value) (n:Nat) (xs:List Value) (ob:Option Nat) (b:Nat) (x:Value) (w:World) (hown:Own w 125 1 v n xs ob) (hb:Blk w b #[x] 125) (hx1:x.oneCell'=true)
  (hn:n<=1099511627776):
  Calls Tryz.prog 136 #[v, .int .i64 n, .slice (some ⟨b,0,none⟩) 1 1] w (yJ w 125 1 (n+1) (xs.take n++x::xs.drop n) ob):=by
 have hrd:Rd w 1 (.slice (some ⟨b,0,none⟩) 1 1) 1 [x]:=(show Own w 125 1 (.slice (some ⟨b,0,none⟩) 1 1) 1 [x] (some b) from ⟨by simp, .inr ⟨b,1,_,rfl,rfl,hb,Nat.le_refl _,by unfold maxLen;omega,by simp,by simp⟩⟩).rd
 have hxs:xs.take n++x::xs.drop n=xs++[x]:=by
  have:=hown.len
  rw [List.take_of_length_le (by omega),List.drop_eq_nil_of_le (by omega)]
 rw [hxs]
 have h1:∀u∈[x],u.oneCell'=true:=by simpa using hx1
 have HO:=Lib.hid hown
 have HR:=Lib.hid hrd
 have HX:=Lib.hid h1
 rcases hown.2 with ⟨rfl,rfl,rfl⟩|⟨g,cap,cur,rfl,rfl,_,hnc,hcm,_⟩
 all_goals
  clear hown hrd hb hx1 hxs h1
  (try unfold maxLen at hcm)
  go_enter Tryz.func136,Tryz.ntmps136
  go_wp2_with (at_builtin;refine jM rfl _ _ _ rfl 125 1 8 _ Tryz.underlying122 Gn rfl (by decide) _ _ _ HO.out 1 [x] HR.out HX.out (by unfold maxLen;omega) (by omega) ?_;intro v' w' ob' h2 h3 h4)
  all_goals
   go_ret
   exact ⟨_,_,rfl,‹_›,‹_›,‹_›⟩
set_option maxHeartbeats 400000 in
theorem Gp (g i m:Nat) (cur:Array Value) (xs:List Value) (b:Nat) (x:Value) (w:World) (hg:Blk w g cur 125) (hlen:xs.length=i+m) (xX:cur.toList.take (i+m)=xs) (hb:Blk w b #[x] 125) (hx1:x.oneCell'=true)
  (hall:∀u∈xs,u.oneCell'=true) (hm:0 < m) (hn:i+m<=1099511627776):
  Calls Tryz.prog 136 #[.slice (some ⟨g,0,none⟩) (i+m) (i+m), .int .i64 i, .slice (some ⟨b,0,none⟩) 1 1] w (yJ w 125 1 (i+m+1) (xs.take i++x::xs.drop i) (some g)):=by
 have hown:Own w 125 1 (.slice (some ⟨g,0,none⟩) (i+m) (i+m)) (i+m) xs (some g):=⟨by omega, .inr ⟨g,i+m,cur,rfl,rfl,hg,Nat.le_refl _,by unfold maxLen;omega,by
  have:=congrArg List.length xX;simp at this;omega,by simpa using xX⟩⟩
 have hrd:Rd w 1 (.slice (some ⟨g,0,none⟩) i (i+m)) i (xs.take i):=(show Own w 125 1 (.slice (some ⟨g,0,none⟩) i (i+m)) i (xs.take i) (some g) from ⟨by simp;omega, .inr ⟨g,i+m,cur,rfl,rfl,hg,by omega,by unfold maxLen;omega,by
  have:=congrArg List.length xX;simp at this;omega,by rw [<-xX,List.take_take];congr 1;omega⟩⟩).rd
 have HR:=Lib.hid hrd
 have HB:=Lib.hid hb
 have HG:=Lib.hid hg
 have HA:=Lib.hid hall
 have HX:=Lib.hid hx1
 have HC:=Lib.hid xX
 have HL:=Lib.hid hlen
 clear hrd hb hg hall hx1 xX hown hlen
 go_enter Tryz.func136,Tryz.ntmps136
 go_wp2_with (first
  |(
    at_builtin;refine tX rfl _ _ _ _ rfl 125 1 8 _ .i64 .i64 Tryz.underlying122 Tryz.underlying3 Gn rfl (by decide) _ _ _ rfl _ HR.out (m+1) (abE (by omega)) (by omega) (by omega) (by unfold maxLen;omega) (by omega) ?_
    intro w1 cap1 hb1 hle1 hcm1 hu1;obtain ⟨Z,hb1',hZ⟩:=FD hb1;have HB1:=Lib.hid hb1';have HU1:=Lib.hid hu1;have HZ:=Lib.hid (show cap1<=i+Z.length by rw [hZ,show (Value.cells (.pointer none)).size=1 from rfl];omega);clear hb1 hu1 hb1' hZ;unfold maxLen at hcm1)
  |(
    (with_reducible refine IK 45 ?_);(refine qH rfl _ _ _ _ rfl 125 1 Tryz.underlying122 uk (by decide) _ _ _ rfl _ _ _ rfl w.heap.size i _ 125 HB1.out [x] ?c1 ?c2 ?c3 ?c4 ?_)
    rotate_right;intro w2 hb2 hu2;have HB2:=Lib.hid (gB hb2 (by have:=HL.out;simp;omega));have HU2:=Lib.hid hu2;clear hb2 hu2))
 case c1=>simp
 case c2=>
  intro j v hv
  obtain ⟨rfl,rfl⟩:j=0/\v=x:=by
   rcases j with _|j
   ·exact ⟨rfl,by simpa using hv.symm⟩
   ·simp at hv
  simpa [Addr.add_lit] using ((HB.out.upd HU1.out (fun h=>h)).cell 0)
 case c3=>have:=HL.out;have:=HZ.out;simp;omega
 case c4=>intro v hv;simp at hv;subst hv;exact HX.out
 have d1:(xs.drop i).length=Nat.min m (m)*1:=by have:=HL.out;simp;omega
 have d2:∀j v,(xs.drop i)[j]?=some v->w2.cell? ⟨g,i+j,none⟩=some v:=by
  intro j v hv
  have hlt:=HG.out.lt
  have hne:g≠w.heap.size:=by omega
  rw [((HG.out.upd HU1.out (fun h=>h)).upd HU2.out hne).cell,<-Array.getElem?_toList]
  have hc:=HC.out
  rw [<-hc] at hv
  have hl:=(List.getElem?_eq_some_iff.1 hv).1
  simp at hl
  rw [List.getElem?_drop,List.getElem?_take] at hv
  split at hv
  ·exact hv
  ·cases hv
 have D1:=Lib.hid d1
 have D2:=Lib.hid d2
 clear d1 d2
 have e1:IntKind.i64.wrap ((i:Int)+1)=(i:Int)+1:=IntWalk.i64_in _ (by omega)
 have e2:0<=(i:Int)+1:=by omega
 have e3:((i:Int)+1).toNat=i+1:=by omega
 have e4:(1:Int)<=(m:Int)+1:=by omega
 have e5:¬(cap1=i+1):=by omega
 have e6:¬(m=0):=by omega
 have e7:(i:Int)<=(i:Int)+(m:Int):=by omega
 have d3:i+1+(xs.drop i).length<=(xs.take i++([x]++Z.drop 1)).length:=by have:=HL.out;have:=HZ.out;simp;omega
 have d4:∀v∈xs.drop i,v.oneCell'=true:=fun v hv=>HA.out v (List.mem_of_mem_drop hv)
 have D3:=Lib.hid d3
 have D4:=Lib.hid d4
 clear d3 d4
 go_region_law (refine wK rfl (.tmp 50) (.tmp 53) 122 122 rfl 125 1 Tryz.underlying122 uk (by decide) (some ⟨w.heap.size,i+1,none⟩) (i+(m+1) - (i+1)) (cap1 - (i+1)) (by simp [Act.eval,Act.put]) (some ⟨g,i,none⟩) m m (by simp [Act.eval,Act.put]) w.heap.size (i+1) _ 125 HB2.out.drew (xs.drop i) (by rw [D1.out];congr 1;simp [Nat.min_def];omega) (fun _=>⟨rfl,_,rfl,fun j v hv=>by rw [Addr.add_lit];exact D2.out j v hv⟩) (by simpa using D3.out) D4.out ?_;intro w3 hb3 hu3)
 have hfin:Own w3 125 1 (.slice (some ⟨w.heap.size,0,none⟩) (i+(m+1)) cap1) (i+m+1) (xs.take i++x::xs.drop i) (some w.heap.size):=by
  have hl:=HL.out
  have hz:=HZ.out
  have e8:xs.take i++([x]++List.drop [x].length Z)=(xs.take i++[x])++Z.drop 1:=by simp
  rw [e8] at hb3
  have hb4:=gB hb3 (by simp;omega)
  refine ⟨by simp;omega, .inr ⟨w.heap.size,cap1,_,by simp only [Nat.add_assoc],rfl,hb4,by omega,by unfold maxLen;omega, ?_, ?_⟩⟩
  ·simp;omega
  ·simp only [List.append_assoc,List.singleton_append]
   have:((xs.take i++x::(xs.drop i++(Z.drop 1).drop (xs.drop i).length)):List Value)=(xs.take i++x::xs.drop i)++(Z.drop 1).drop (xs.drop i).length:=by simp
   rw [this]
   apply List.take_left'
   simp;omega
 have tZ:Upd (fun k=>some g=some k) w w3:=
  ((HU1.out.trans (S:=dG) HU2.out (fun k hk=> .inr (by rw [hk];exact Nat.le_refl _))).drew.trans hu3 (fun k hk=> .inr (by rw [hk];exact Nat.le_refl _))).mono (fun k hk=>hk.elim)
 have HF:=Lib.hid hfin
 have HU:=Lib.hid tZ
 clear hfin tZ hb3 hu3 e1 e2 e3 e4 e5 e6 e7
 go_wp2
 go_ret
 exact ⟨_,_,rfl,HF.out,HU.out, .inr fun k hk=>by cases hk;exact Nat.le_refl _⟩
set_option maxHeartbeats 400000 in
theorem qU (g i m cap:Nat) (cur:Array Value) (xs:List Value) (b:Nat) (x:Value) (w:World) (hg:Blk w g cur 125) (hlen:xs.length=i+m) (xX:cur.toList.take (i+m)=xs) (hcap:i+m < cap) (hcm:cap<=maxLen) (hcs:cap<=cur.size)
  (hb:Blk w b #[x] 125) (hne:g≠b) (hx1:x.oneCell'=true) (hall:∀u∈xs,u.oneCell'=true) (hm:0 < m) (hn:i+m<=1099511627776):
  Calls Tryz.prog 136 #[.slice (some ⟨g,0,none⟩) (i+m) cap, .int .i64 i, .slice (some ⟨b,0,none⟩) 1 1] w (yJ w 125 1 (i+m+1) (xs.take i++x::xs.drop i) (some g)):=by
 obtain ⟨Z,rfl⟩:∃Z:List Value,cur=(xs.take i++(xs.drop i++Z)).toArray:=⟨cur.toList.drop (i+m),by
  apply Array.ext'
  rw [<-List.append_assoc,List.take_append_drop]
  show _=xs++_
  rw [<-xX,List.take_append_drop]⟩
 have hZ:cap<=i+m+Z.length:=by simp at hcs;omega
 unfold maxLen at hcm
 have HB:=Lib.hid hb
 have HG:=Lib.hid hg
 have HA:=Lib.hid hall
 have HX:=Lib.hid hx1
 have HL:=Lib.hid hlen
 have HZ:=Lib.hid hZ
 have HN:=Lib.hid hne
 clear hb hg hall hx1 xX hlen hcs hZ hne
 go_enter Tryz.func136,Tryz.ntmps136
 go_wp2
 rw [run_callFunc_extern Tryz.func166 (by kernel_rfl) (by kernel_rfl) (by kernel_rfl) (e:=Extern.SlicesOverlaps.overlaps #[122,122] #[4]) (by kernel_rfl),
  Lib.run_overlaps_apart w 122 4 125 Tryz.underlying122 1 (fun _=>by kernel_rfl) _ _ _ _ _ _ (fun h=>HN.out h.symm) 125 125 1 _ (HB.out.shape) (HG.out.shape) (by have:=HL.out;simp;omega) (HB.out.frozen _) (HB.out.frozen _)]
 simp only [Result.andThen]
 rw [Oper.upon_value]
 go_wp2
 have d1:(xs.drop i).length=Nat.min m m*1:=by have:=HL.out;simp;omega
 have D1:=Lib.hid d1
 clear d1
 have e1:IntKind.i64.wrap ((i:Int)+1)=(i:Int)+1:=IntWalk.i64_in _ (by omega)
 have e2:0<=(i:Int)+1:=by omega
 have e3:((i:Int)+1).toNat=i+1:=by omega
 have e4:(1:Int)<=(m:Int)+1:=by omega
 have e5:¬(cap=i+1):=by omega
 have e6:¬(cap=i):=by omega
 have e7:(i:Int)<=(i:Int)+(m:Int):=by omega
 have e8:(i:Int)<=(i:Int)+(m:Int)+1:=by omega
 obtain ⟨y,t,hyt⟩:∃y t,xs.drop i=y::t:=by
  cases h:xs.drop i with
  |nil=>have h1:=HL.out;have h2:=congrArg List.length h;simp at h2;omega
  |cons y t=>exact ⟨y,t,rfl⟩
 have hG2:Blk w g ((xs.take i++[y])++(t++Z)).toArray 125:=by
  have:=HG.out
  rw [hyt] at this
  simpa using this
 have hG3:∀j v,(xs.drop i)[j]?=some v->w.cell? ⟨g,i+j,none⟩=some v:=by
  intro j v hv
  have hl:=HL.out
  have hj:=(List.getElem?_eq_some_iff.1 hv).1
  have hi:(xs.take i).length=i:=by simp;omega
  rw [HG.out.cell,List.getElem?_toArray,List.getElem?_append_right (by omega),List.getElem?_append_left (by rw [hi];omega),hi,Nat.add_sub_cancel_left]
  exact hv
 have hl3:t.length+1=m:=by have h1:=HL.out;have h2:=congrArg List.length hyt;simp at h2;omega
 have HG2:=Lib.hid hG2
 have HG3:=Lib.hid hG3
 have HY:=Lib.hid hyt
 have HL3:=Lib.hid hl3
 have d4:∀v∈xs.drop i,v.oneCell'=true:=fun v hv=>HA.out v (List.mem_of_mem_drop hv)
 have D4:=Lib.hid d4
 clear d4 hG2 hG3 hyt hl3
 go_region_law (refine wK rfl (.tmp 73) (.tmp 76) 122 122 rfl 125 1 Tryz.underlying122 uk (by decide) (some ⟨g,i+1,none⟩) m (cap - (i+1)) (by simp [Act.eval,Act.put]) (some ⟨g,i,none⟩) (m+1) (cap - i) (by simp [Act.eval,Act.put];omega) g (i+1) _ 125 HG2.out.drew (xs.drop i) (by rw [D1.out];congr 1;simp [Nat.min_def]) (fun _=>⟨rfl,_,rfl,fun j v hv=>by rw [Addr.add_lit];exact HG3.out j v hv⟩) (by have h1:=D1.out;have h2:=HL.out;have h3:=HL3.out;have h4:=HZ.out;simp at h1 ⊢;omega) D4.out ?_;intro w3 hb3 hu3)
 have hb4:Blk w3 g (xs.take i++(y::(xs.drop i++(t++Z).drop m))).toArray 125:=by
  have:=gB hb3 (by have:=HL.out;simp;omega)
  have h1:=D1.out
  simp only [List.append_assoc,List.singleton_append] at this
  rw [show (xs.drop i).length=m by simpa using h1] at this
  exact this
 have HB4:=Lib.hid hb4
 have HU3:=Lib.hid hu3
 clear hb3 hu3 hb4
 go_wp2_with ((with_reducible refine IK 82 ?_);(refine qH rfl _ _ _ _ rfl 125 1 Tryz.underlying122 uk (by decide) _ _ _ rfl _ _ _ rfl g i _ 125 HB4.out [x] ?c1 ?c2 ?c3 ?c4 ?_);rotate_right;intro w4 hb5 hu4;have HB5:=Lib.hid (gB hb5 (by have:=HL.out;simp;omega));have HU4:=Lib.hid hu4;clear hb5 hu4)
 case c1=>
  have:Nat.min 1 (i+m+1 - i)=1:=Nat.min_eq_left (by omega)
  rw [this];rfl
 case c2=>
  intro _ j v hv
  obtain ⟨rfl,rfl⟩:j=0/\v=x:=by
   rcases j with _|j
   ·exact ⟨rfl,by simpa using hv.symm⟩
   ·simp at hv
  simpa using ((HB.out.drew.upd HU3.out (fun h=>HN.out h.symm)).cell 0)
 case c3=>have:=HL.out;simp;omega
 case c4=>intro v hv;simp at hv;subst hv;exact HX.out
 have hfin:Own w4 125 1 (.slice (some ⟨g,0,none⟩) (i+m+1) cap) (i+m+1) (xs.take i++x::xs.drop i) (some g):=by
  have hl:=HL.out
  have hz:=HZ.out
  have hb6:=HB5.out
  have h3:=HL3.out
  refine ⟨by simp;omega, .inr ⟨g,cap,_,rfl,rfl,hb6,by omega,by unfold maxLen;omega,by simp;omega, ?_⟩⟩
  have:(xs.take i++([x]++List.drop [x].length (y::(xs.drop i++(t++Z).drop m))):List Value)=(xs.take i++x::xs.drop i)++(t++Z).drop m:=by simp
  rw [this]
  apply List.take_left'
  simp;omega
 have tZ:Upd (fun k=>some g=some k) w w4:=
  ((((Upd.refl (fun k=>k=g) w).drew).trans HU3.out (fun k hk=> .inl hk)).trans HU4.out (fun k hk=> .inl hk)).mono (fun k hk=> .inl (by rw [hk]))
 have HF:=Lib.hid hfin
 have HU:=Lib.hid tZ
 clear hfin tZ
 go_ret
 exact ⟨_,_,rfl,HF.out,HU.out, .inl rfl⟩
theorem Je (v:Value) (n i:Nat) (xs:List Value) (ob:Option Nat) (b:Nat) (x:Value) (w:World) (hown:Own w 125 1 v n xs ob) (hi:i<=n) (hb:Blk w b #[x] 125) (hne:ob≠some b) (hx1:x.oneCell'=true)
  (hall:∀u∈xs,u.oneCell'=true) (hn:n<=1099511627776):
  Calls Tryz.prog 136 #[v, .int .i64 i, .slice (some ⟨b,0,none⟩) 1 1] w (yJ w 125 1 (n+1) (xs.take i++x::xs.drop i) ob):=by
 by_cases hin:i=n
 ·subst hin;exact Jd v i xs ob b x w hown hb hx1 hn
 ·obtain ⟨m,rfl⟩:∃m,n=i+m:=⟨n - i,by omega⟩
  obtain ⟨g,cap,cur,rfl,rfl,hg,h1,h2,h3,h4⟩:=hown.x8 (by omega)
  have hl:=hown.len
  rw [Nat.mul_one] at hl h3 h4
  by_cases hc:i+m=cap
  ·subst hc;exact Gp g i m cur xs b x w hg hl h4 hb hx1 hall (by omega) hn
  ·exact qU g i m cap cur xs b x w hg hl h4 (by omega) h2 h3 hb (fun e=>hne (by rw [e])) hx1 hall (by omega) hn
end Go.Proofs.YtbnkdnlfdofepaaGreat.aar
namespace Go.Proofs.YtbnkdnlfdofepaaGreat.aas
open Go.RowKit
set_option maxRecDepth 100000
theorem Gn:(Tryz.prog.info? 125).map (fun i=>(i.zero,i.size,i.bytes))=some (some (.pointer none),1,8):=by kernel_rfl
theorem uk:(Tryz.prog.info? 125).map (·.size)=some 1:=by kernel_rfl
set_option maxHeartbeats 400000 in
theorem Jf (g i m cap:Nat) (cur:Array Value) (xs ys:List Value) (y:Value) (w:World) (hg:Blk w g cur 125) (hxl:xs.length=i) (hyl:ys.length=m) (xX:cur.toList.take (i+1+m)=xs++y::ys) (hcap:i+1+m<=cap) (hcm:cap<=maxLen) (hcs:cap<=cur.size)
  (hall:∀u∈ys,u.oneCell'=true) (hn:i+1+m<=1099511627776):
  Calls Tryz.prog 162 #[.slice (some ⟨g,0,none⟩) (i+1+m) cap, .int .i64 i, .int .i64 (i+1)] w (yJ w 125 1 (i+m) (xs++ys) (some g)):=by
 obtain ⟨Z,rfl⟩:∃Z:List Value,cur=(xs++(y::ys++Z)).toArray:=⟨cur.toList.drop (i+1+m),by
  apply Array.ext'
  show _=xs++(y::ys++_)
  rw [<-List.append_assoc,<-xX,List.take_append_drop]⟩
 have hZ:cap<=i+1+m+Z.length:=by simp at hcs;omega
 unfold maxLen at hcm
 have HG:=Lib.hid hg
 have HA:=Lib.hid hall
 have HX:=Lib.hid hxl
 have HY:=Lib.hid hyl
 have HZ:=Lib.hid hZ
 clear hg hall xX hxl hyl hcs hZ
 have e1:(i:Int)+1<=(i:Int)+1+m:=by omega
 have e2:0<=(i:Int)+1:=by omega
 have e3:((i:Int)+1).toNat=i+1:=by omega
 have e4:(i:Int)<=cap:=by omega
 have e5:(i:Int)<=(i:Int)+1:=by omega
 have d2:0 < m->∀j v,ys[j]?=some v->w.cell? ⟨g,i+1+j,none⟩=some v:=by
  intro _ j v hv
  have hl:=HX.out
  have hj:=(List.getElem?_eq_some_iff.1 hv).1
  rw [HG.out.cell,List.getElem?_toArray,List.getElem?_append_right (by omega),hl,show i+1+j - i=j+1 by omega]
  simp only [List.cons_append,List.getElem?_cons_succ]
  rw [List.getElem?_append_left hj]
  exact hv
 have D2:=Lib.hid d2
 clear d2
 by_cases h6:cap=i+1
 all_goals
  go_enter Tryz.func162,Tryz.ntmps162
  go_wp2
 ·have hm0:m=0:=by omega
  subst h6
  subst hm0
  go_region_law (refine qI rfl (.tmp 22) (.tmp 25) 122 rfl 125 1 Tryz.underlying122 uk g i (i+1) (by simp [Act.eval,Act.put]) _ 125 HG.out.drew (some ⟨g,0,none⟩) 0 0 (by simp [Act.eval,Act.put]) ys (by rw [HY.out]) (fun h=>absurd h (by omega)) HA.out (by omega) (by have:=HX.out;have:=HY.out;simp;omega) ?_;intro w3 hb3 hu3)
  have hb4:Blk w3 g (xs++(ys++(y::ys++Z).drop 0)).toArray 125:=by
   have h:=hb3
   rw [Nat.mul_one] at h
   have:=gB h HX.out
   rwa [HY.out] at this
  obtain ⟨z,Z',hz⟩:∃z Z',(y::ys++Z).drop 0=z::Z':=by
   cases h:(y::ys++Z).drop 0 with
   |nil=>have h1:=congrArg List.length h;have h2:=HY.out;first|(simp at h1;done)|(simp at h1;omega)
   |cons z Z'=>exact ⟨z,Z',rfl⟩
  have hzl:1+Z'.length=1+Z.length:=by have h1:=congrArg List.length hz;have h2:=HY.out;(try simp at h1);first|omega|(simp at h1 ⊢;omega)|simp_all
  rw [hz] at hb4
  have HB4:=Lib.hid hb4
  have HU3:=Lib.hid hu3
  have HZL:=Lib.hid hzl
  clear hb3 hu3 hb4 hz hzl
  go_wp2_with ((with_reducible refine FB ?_);refine uS rfl _ _ rfl 125 1 8 _ Tryz.underlying122 Gn rfl (by simp [Value.cells,Value.oneCell']) g (i+0) 1 ((i+1) - (i+0)) (by simp [Act.eval,Act.put];try omega) _ 125 HB4.out (by have:=HX.out;have:=HY.out;simp;omega) (by omega) ?_;intro w4 hb5 hu4;have HB5:=Lib.hid hb5;have HU4:=Lib.hid hu4;clear hb5 hu4)
  have hfin:Own w4 125 1 (.slice (some ⟨g,0,none⟩) (i+0) (i+1)) (i+0) (xs++ys) (some g):=by
   have hxl:=HX.out
   have hyl:=HY.out
   have hz:=HZ.out
   have hz2:=HZL.out
   refine ⟨by simp;omega, .inr ⟨g,(i+1),_,rfl,rfl,HB5.out,by omega,by unfold maxLen;omega, ?_, ?_⟩⟩
   ·simp [size_zeroCells,Value.cells];omega
   ·rw [Nat.mul_one]
    show List.take _ (List.take (i+0) (xs++(ys++z::Z'))++_)=_
    rw [<-List.append_assoc xs ys,List.take_append_of_le_length (by simp;omega),List.take_take,Nat.min_self]
    rw [List.take_append_of_le_length (by simp;omega),List.take_of_length_le (by simp;omega)]
  have tZ:Upd (fun k=>some g=some k) w w4:=
   ((((Upd.refl (fun k=>k=g) w).drew).trans HU3.out (fun k hk=> .inl hk)).trans HU4.out (fun k hk=> .inl hk)).mono (fun k hk=> .inl (by rw [hk]))
  have HF:=Lib.hid hfin
  have HU:=Lib.hid tZ
  clear hfin tZ
  go_ret
  exact ⟨_,_,rfl,HF.out,HU.out, .inl rfl⟩
 ·go_region_law (refine qI rfl (.tmp 22) (.tmp 25) 122 rfl 125 1 Tryz.underlying122 uk g i cap (by simp [Act.eval,Act.put]) _ 125 HG.out.drew (some ⟨g,i+1,none⟩) m (cap - (i+1)) (by simp [Act.eval,Act.put]) ys (by rw [HY.out,Nat.mul_one]) (fun h=>⟨_,rfl,fun j v hv=>by rw [Addr.add_lit];exact D2.out h j v hv⟩) HA.out (by omega) (by have:=HX.out;have:=HY.out;simp;omega) ?_;intro w3 hb3 hu3)
  have hb4:Blk w3 g (xs++(ys++(y::ys++Z).drop m)).toArray 125:=by
   have h:=hb3
   rw [Nat.mul_one] at h
   have:=gB h HX.out
   rwa [HY.out] at this
  obtain ⟨z,Z',hz⟩:∃z Z',(y::ys++Z).drop m=z::Z':=by
   cases h:(y::ys++Z).drop m with
   |nil=>have h1:=congrArg List.length h;have h2:=HY.out;first|(simp at h1;done)|(simp at h1;omega)
   |cons z Z'=>exact ⟨z,Z',rfl⟩
  have hzl:1+Z'.length=1+Z.length:=by have h1:=congrArg List.length hz;have h2:=HY.out;(try simp at h1);first|omega|(simp at h1 ⊢;omega)|simp_all
  rw [hz] at hb4
  have HB4:=Lib.hid hb4
  have HU3:=Lib.hid hu3
  have HZL:=Lib.hid hzl
  clear hb3 hu3 hb4 hz hzl
  go_wp2_with ((with_reducible refine FB ?_);refine uS rfl _ _ rfl 125 1 8 _ Tryz.underlying122 Gn rfl (by simp [Value.cells,Value.oneCell']) g (i+m) 1 (cap - (i+m)) (by simp [Act.eval,Act.put];try omega) _ 125 HB4.out (by have:=HX.out;have:=HY.out;simp;omega) (by omega) ?_;intro w4 hb5 hu4;have HB5:=Lib.hid hb5;have HU4:=Lib.hid hu4;clear hb5 hu4)
  have hfin:Own w4 125 1 (.slice (some ⟨g,0,none⟩) (i+m) cap) (i+m) (xs++ys) (some g):=by
   have hxl:=HX.out
   have hyl:=HY.out
   have hz:=HZ.out
   have hz2:=HZL.out
   refine ⟨by simp;omega, .inr ⟨g,cap,_,rfl,rfl,HB5.out,by omega,by unfold maxLen;omega, ?_, ?_⟩⟩
   ·simp [size_zeroCells,Value.cells];omega
   ·rw [Nat.mul_one]
    show List.take _ (List.take (i+m) (xs++(ys++z::Z'))++_)=_
    rw [<-List.append_assoc xs ys,List.take_append_of_le_length (by simp;omega),List.take_take,Nat.min_self]
    rw [List.take_append_of_le_length (by simp;omega),List.take_of_length_le (by simp;omega)]
  have tZ:Upd (fun k=>some g=some k) w w4:=
   ((((Upd.refl (fun k=>k=g) w).drew).trans HU3.out (fun k hk=> .inl hk)).trans HU4.out (fun k hk=> .inl hk)).mono (fun k hk=> .inl (by rw [hk]))
  have HF:=Lib.hid hfin
  have HU:=Lib.hid tZ
  clear hfin tZ
  go_ret
  exact ⟨_,_,rfl,HF.out,HU.out, .inl rfl⟩
end Go.Proofs.YtbnkdnlfdofepaaGreat.aas
namespace Go.Proofs.YtbnkdnlfdofepaaGreat
open Go.RowKit
set_option maxRecDepth 100000
def wW (w:World) (d:Nat) (m:MD) (ga:Option Nat) (fs:List FM) (e:Ending) (w':World):Prop:=
 e= .returned (.tuple #[])/\∃v' ga',Blk w' d (uj m v') 124/\Own w' 125 1 v' fs.length (fs.map fun f=>uD f.p) ga'/\Upd (fun b=>b=d\/ga=some b) w w'/\(ga'=ga\/∀g,ga'=some g->w.heap.size<=g)
theorem Own.shape {w:World} {e:TypeId} {size n:Nat} {v:Value} {xs:List Value} {ob:Option Nat} (h:Own w e size v n xs ob):∃a c,v= .slice a n c:=by
 obtain ⟨_,_,a,c,hv,_⟩:=h.rd
 exact ⟨a,c,hv⟩
theorem Le (fs:List FM):∀u∈fs.map (fun f=>uD f.p),u.oneCell'=true:=by
 intro u hu;obtain ⟨f,_,rfl⟩:=List.mem_map.1 hu;rfl
theorem NJ {fs:List FM} (hr:ay FM.key fs) {f f0:FM} (hf:aO FM.key fs f.key=some f0):dC FM.key fs f=fs.set (lbn fs f.key) f:=by
 obtain ⟨hm,hk⟩:=get_mem hf
 obtain ⟨hlt,hat⟩:=yZ hr hm
 rw [hk] at hlt
 have hat':(fs[lbn fs f.key]).key=f.key:=by simp only [hk] at hat;rw [hat];exact hk
 have h1:∀(k:Nat) (h:k < fs.length),k < lbn fs f.key->bl (fs[k]).key f.key=true:=fun k h hk'=>by rw [<-hat'];exact List.pairwise_iff_getElem.1 hr _ _ h hlt hk'
 have h2:∀(k:Nat) (h:k < fs.length),lbn fs f.key<=k->bl (fs[k]).key f.key=false:=fun k h hk'=>by
  by_cases e:k=lbn fs f.key
  ·subst e;rw [hat'];exact dZ _
  ·exact iH (by rw [<-hat'];exact List.pairwise_iff_getElem.1 hr _ _ hlt h (by omega))
 obtain ⟨c1,_⟩:=hr.cut f.key (lbn fs f.key) (by omega) h1 h2
 have c2:=hr.xE hlt hat' h1
 unfold dC
 rw [<-c1,<-c2,List.set_eq_take_append_cons_drop,if_pos hlt]
theorem NK {fs:List FM} (hr:ay FM.key fs) {f:FM} (hf:aO FM.key fs f.key=none):dC FM.key fs f=fs.take (lbn fs f.key)++f::fs.drop (lbn fs f.key):=by
 rw [get_none] at hf
 have hex:∃i,i<=fs.length/\(∀(k:Nat) (h:k < fs.length),k < i->bl (fs[k]).key f.key=true)/\(∀(k:Nat) (h:k < fs.length),i<=k->bl (fs[k]).key f.key=false):=by
  clear hf
  induction fs with
  |nil=>exact ⟨0,Nat.le_refl _,fun k h=>absurd h (by simp),fun k h=>absurd h (by simp)⟩
  |cons x l ih=>
   have hp:=List.pairwise_cons.1 hr
   cases hx:bl x.key f.key with
   |true=>
    obtain ⟨i,h1,h2,h3⟩:=ih hp.2
    refine ⟨i+1,by simpa using h1,fun k h hk=> ?_,fun k h hk=> ?_⟩
    ·rcases k with _|k
     ·exact hx
     ·exact h2 k (by simpa using h) (by omega)
    ·rcases k with _|k
     ·omega
     ·exact h3 k (by simpa using h) (by omega)
   |false=>
    refine ⟨0,Nat.zero_le _,fun k _ hk=>by omega,fun k h _=> ?_⟩
    rcases k with _|k
    ·exact hx
    ·have hk:k < l.length:=by simpa using h
     have:=hp.1 _ (List.getElem_mem hk)
     cases h':bl (l[k]).key f.key with
     |false=>simpa using h'
     |true=>have:=jT this h';rw [hx] at this;cases this
 obtain ⟨i,hi,h1,h2⟩:=hex
 obtain ⟨c1,c2⟩:=hr.cut f.key i hi h1 h2
 have e:lbn fs f.key=i:=by have:=congrArg List.length c1;rw [List.length_take] at this;unfold lbn;omega
 unfold dC
 rw [e,c1,c2,ui hf]
theorem Jg {fs:List FM} (hr:ay FM.key fs) {s:Bs} {f0:FM} (hf:aO FM.key fs s=some f0):bC FM.key fs s=fs.take (lbn fs s)++fs.drop (lbn fs s+1):=by
 obtain ⟨hm,rfl⟩:=get_mem hf
 obtain ⟨hlt,hat⟩:=yZ hr hm
 have hx:fs=fs.take (lbn fs f0.key)++fs[lbn fs f0.key]::fs.drop (lbn fs f0.key+1):=by rw [List.getElem_cons_drop,List.take_append_drop]
 have hr':=hr
 conv=>lhs;rw [hx]
 unfold bC
 rw [List.filter_append,List.filter_cons,hat]
 simp only [bne_self_eq_false,Bool.false_eq_true,if_false]
 congr 1
 ·rw [List.filter_eq_self]
  intro x hx
  obtain ⟨k,hk,rfl⟩:=List.mem_iff_getElem.1 hx
  rw [List.length_take] at hk
  rw [List.getElem_take]
  have:=qB (List.pairwise_iff_getElem.1 hr k _ (by omega) hlt (by omega))
  rw [hat] at this
  simpa using this
 ·rw [List.filter_eq_self]
  intro x hx
  obtain ⟨k,hk,rfl⟩:=List.mem_iff_getElem.1 hx
  rw [List.length_drop] at hk
  rw [List.getElem_drop]
  have:=qB (List.pairwise_iff_getElem.1 hr _ (lbn fs f0.key+1+k) hlt (by omega) (by omega))
  rw [hat] at this
  simpa using this.symm
set_option maxHeartbeats 400000 in
theorem put_any {w:World} {d:Nat} {m:MD} {v:Value} {ga:Option Nat} {fs:List FM} (h:Lay w d m v ga fs) (hn:fs.length<=1099511627775) (f:FM) (hf:Blk w f.p #[.string f.name,f.v, .int .i64 f.synced] 127):
  Calls Tryz.prog 94 #[.pointer (some ⟨d,0,none⟩), .pointer (some ⟨f.p,0,none⟩)] w (wW w d m ga (dC FM.key fs f)):=by
 have c0:w.cell? ⟨f.p,0,none⟩=some (.string f.name):=hf.cell 0
 have c1:w.cell? ⟨d,1,none⟩=some v:=h.disk.cell 1
 have f1:=h.disk.frozen 1
 have CON:=vz h f.name (by omega)
 have hk:f.name.data.toList=f.key:=rfl
 rw [hk] at CON
 cases hg:aO FM.key fs f.key with
 |some f0=>
  rw [hg] at CON
  rw [NJ h.rising hg]
  obtain ⟨hm,hk0⟩:=get_mem hg
  obtain ⟨hlt,_⟩:=yZ h.rising hm
  rw [hk0] at hlt
  obtain ⟨g,cap,cur,rfl,rfl,hb,hnc,hcm,hcs,htake⟩:=h.arr.x8 (by omega)
  have hfz:=hb.frozen (lbn fs f.key)
  have hcell:w.cell? ⟨g,lbn fs f.key,none⟩=some (.pointer (some ⟨(fs[lbn fs f.key]).p,0,none⟩)):=h.arr.cellAt (by rw [List.getElem?_map,List.getElem?_eq_getElem hlt];rfl)
  have hne:g≠d:=fun e=>h.vw (by rw [e])
  have hfin:wW w d m (some g) (fs.set (lbn fs f.key) f) (.returned (.tuple #[])) (w.setCell ⟨g,lbn fs f.key,none⟩ (.pointer (some ⟨f.p,0,none⟩))):=by
   refine ⟨rfl, .slice (some ⟨g,0,none⟩) fs.length cap,some g,h.disk.setOther hne _, ?_,(Upd.refl _ _).setCell (.inl (.inr rfl)) _, .inl rfl⟩
   have hl:=h.arr.len
   rw [Nat.mul_one] at hcs htake
   refine ⟨by simp, .inr ⟨g,cap,_,by rw [List.length_set],rfl,hb.set _ _,by simpa using hnc,hcm,by simpa using hcs, ?_⟩⟩
   rw [Nat.mul_one,List.length_set,Array.toList_setIfInBounds,List.take_set,htake,List.map_set]
   rfl
  have HF:=Lib.hid hfin
  have Ee:=Lib.hid CON
  generalize lbn fs f.key=i at*
  clear CON hfin h hf hb hcs htake hne hg hm hk hk0
  go_enter Tryz.func94,Tryz.ntmps94
  go_wp2_with (go_at_call 135;refine Ee.out.mono ?_;rintro e w' ⟨rfl,rfl⟩)
  go_end0
  exact HF.out
 |none=>
  rw [hg] at CON
  rw [NK h.rising hg]
  have hi:=Y0 fs f.key
  have ho:=h.arr
  have HD:=Lib.hid h.disk
  have HA:=Lib.hid h.vw
  have HO:=Lib.hid ho
  have Ee:=Lib.hid CON
  generalize lbn fs f.key=i at*
  have hlen:(fs.take i++f::fs.drop i).length=fs.length+1:=by simp;omega
  have hmap:(fs.take i++f::fs.drop i).map (fun f=>uD f.p)=(fs.map fun f=>uD f.p).take i++uD f.p::(fs.map fun f=>uD f.p).drop i:=by simp
  have HL:=Lib.hid hlen
  have HM:=Lib.hid hmap
  have hlt:=h.disk.lt
  clear CON h hf ho hg hk hlen hmap
  go_enter Tryz.func94,Tryz.ntmps94
  go_wp2_with (first
   |(go_at_call 135;refine Ee.out.mono ?_;rintro e w' ⟨rfl,rfl⟩)
   |(
     go_at_call 136;refine (aar.Je v fs.length i _ ga _ _ _ (HO.out.alloc _) hi (Blk.new _ _ _) (fun e=>absurd (HO.out.lt _ e) (Nat.lt_irrefl _)) rfl (Le fs) (by omega)).mono ?_;rintro e w1 ⟨v',ob',rfl,h1,h2,h3⟩
     obtain ⟨a',c',rfl⟩:=h1.shape;have HD1:=Lib.hid ((HD.out.alloc _).upd h2 HA.out);have H1:=Lib.hid h1;have H2:=Lib.hid h2;have H3:=Lib.hid h3;clear h1 h2 h3
     have c1':w1.cell? ⟨d,1,none⟩=some v:=HD1.out.cell 1
     have f1':=HD1.out.frozen 1))
  go_end0
  have hne:ob'≠some d:=by
   rcases H3.out with h|h
   ·rw [h];exact HA.out
   ·intro e;have:=h d e;simp at this;omega
  have hB:Blk (w1.setCell ⟨d,1,none⟩ (.slice a' (fs.length+1) c')) d (uj m (.slice a' (fs.length+1) c')) 124:=HD1.out.set 1 _
  refine ⟨rfl, .slice a' (fs.length+1) c',ob',hB, ?_, ?_, ?_⟩
  ·rw [HL.out,HM.out];exact H1.out.setOther hne _
  ·exact (((Upd.refl (fun b=>b=d\/ga=some b) w').alloc _).trans H2.out (fun k hk=> .inl (.inr hk))).setCell (p:=⟨d,1,none⟩) (.inl (.inl rfl)) _
  ·rcases H3.out with h|h
   ·exact .inl h
   ·exact .inr fun g hg=>by have:=h g hg;simp at this;omega
set_option maxHeartbeats 400000 in
theorem Gq {w:World} {d:Nat} {m:MD} {v:Value} {ga:Option Nat} {fs:List FM} (h:Lay w d m v ga fs) (hn:fs.length<=1099511627776) (s:ByteArray) (f0:FM) (hg:aO FM.key fs s.data.toList=some f0):
  Calls Tryz.prog 130 #[.pointer (some ⟨d,0,none⟩), .string s] w (wW w d m ga (bC FM.key fs s.data.toList)):=by
 have c1:w.cell? ⟨d,1,none⟩=some v:=h.disk.cell 1
 have f1:=h.disk.frozen 1
 have CON:=vz h s hn
 rw [hg] at CON
 rw [Jg h.rising hg]
 obtain ⟨hm,hk0⟩:=get_mem hg
 obtain ⟨hlt,_⟩:=yZ h.rising hm
 rw [hk0] at hlt
 obtain ⟨g,cap,cur,rfl,rfl,hb,hnc,hcm,hcs,htake⟩:=h.arr.x8 (by omega)
 have hne:g≠d:=fun e=>h.vw (by rw [e])
 have HD:=Lib.hid h.disk
 have Ee:=Lib.hid CON
 have hdlt:=h.disk.lt
 generalize lbn fs s.data.toList=i at*
 obtain ⟨k,hk⟩:∃k,fs.length=i+1+k:=⟨fs.length - (i+1),by omega⟩
 have hmap:(fs.take i++fs.drop (i+1)).map (fun f=>uD f.p)=(fs.take i).map (fun f=>uD f.p)++(fs.drop (i+1)).map fun f=>uD f.p:=by simp
 have hlen:(fs.take i++fs.drop (i+1)).length=i+k:=by simp;omega
 rw [Nat.mul_one] at hcs htake
 have DEL:=aas.Jf g i k cap cur ((fs.take i).map fun f=>uD f.p) ((fs.drop (i+1)).map fun f=>uD f.p) (uD (fs[i]).p) w hb (by simp;omega) (by simp;omega) (by
  rw [<-hk,htake]
  have hx:fs=fs.take i++fs[i]::fs.drop (i+1):=by rw [List.getElem_cons_drop,List.take_append_drop]
  conv=>lhs;rw [hx]
  rw [List.map_append,List.map_cons]) (by omega) hcm hcs (Le _) (by omega)
 rw [hk] at c1
 have abP:=Lib.hid DEL
 have HN:=Lib.hid hne
 have HL:=Lib.hid hlen
 have HM:=Lib.hid hmap
 clear CON h hb hcs htake hg hm hk0 DEL hne hlen hmap hnc hlt
 go_enter Tryz.func130,Tryz.ntmps130
 go_wp2_with (first
  |(go_at_call 135;refine Ee.out.mono ?_;rintro e w' ⟨rfl,rfl⟩)
  |(
    go_at_call 162;refine abP.out.mono ?_;rintro e w1 ⟨v',ob',rfl,h1,h2,h3⟩
    obtain ⟨a',c',rfl⟩:=h1.shape;have HD1:=Lib.hid (HD.out.upd h2 (fun e=>HN.out (by cases e;rfl)));have H1:=Lib.hid h1;have H2:=Lib.hid h2;have H3:=Lib.hid h3;clear h1 h2 h3
    have c1':=HD1.out.cell 1
    have f1':=HD1.out.frozen 1))
 go_end0
 have hne:ob'≠some d:=by
  rcases H3.out with h|h
  ·rw [h];intro e;exact HN.out (Option.some.inj e)
  ·intro e;have:=h d e;omega
 have hB:Blk (w1.setCell ⟨d,1,none⟩ (.slice a' (i+k) c')) d (uj m (.slice a' (i+k) c')) 124:=HD1.out.set 1 _
 refine ⟨rfl, .slice a' (i+k) c',ob',hB, ?_, ?_,H3.out⟩
 ·rw [HL.out,HM.out];exact H1.out.setOther hne _
 ·exact ((Upd.refl (fun b=>b=d\/some g=some b) w').trans H2.out (fun k hk=> .inl (.inr hk))).setCell (p:=⟨d,1,none⟩) (.inl (.inl rfl)) _
end Go.Proofs.YtbnkdnlfdofepaaGreat
namespace Go.Proofs.YtbnkdnlfdofepaaGreat
open Go.RowKit
set_option maxRecDepth 100000
theorem Gs {α:Type} (key:α->Bs) (l:List α) (f:α):(dC key l f).Perm (f::bC key l (key f)):=by
 have e1:l.filter (fun x=>bl (key x) (key f))=(bC key l (key f)).filter (fun x=>bl (key x) (key f)):=by
  unfold bC;rw [List.filter_filter];apply List.filter_congr;intro x _
  cases h:bl (key x) (key f) with
  |true=>simp [qB h]
  |false=>rfl
 have e2:l.filter (fun x=>bl (key f) (key x))=(bC key l (key f)).filter (fun x=> !bl (key x) (key f)):=by
  unfold bC;rw [List.filter_filter];apply List.filter_congr;intro x _
  cases h:bl (key f) (key x) with
  |true=>simp [iH h,(qB h).symm]
  |false=>
   cases h2:bl (key x) (key f) with
   |true=>simp
   |false=>simp [lQ h2 h]
 unfold dC
 rw [e1,e2]
 refine List.perm_middle.trans (List.Perm.cons _ ?_)
 exact List.filter_append_perm _ _
theorem xH {l:List FM} (h:(l.map FM.p).Nodup) {f:FM} (hf:∀x∈l,x.key≠f.key->x.p≠f.p):((dC FM.key l f).map FM.p).Nodup:=by
 rw [((Gs FM.key l f).map FM.p).nodup_iff,List.map_cons,List.nodup_cons]
 refine ⟨fun hm=> ?_, ?_⟩
 ·obtain ⟨x,hx,e⟩:=List.mem_map.1 hm
  obtain ⟨h1,h2⟩:=eu.1 hx
  exact hf x h1 h2 e
 ·exact (List.Sublist.map FM.p List.filter_sublist).nodup h
theorem xI {l:List FM} (h:(l.filterMap FM.ob).Nodup) {f:FM} (hf:∀g,f.ob=some g->∀x∈l,x.key≠f.key->x.ob≠some g):((dC FM.key l f).filterMap FM.ob).Nodup:=by
 rw [((Gs FM.key l f).filterMap FM.ob).nodup_iff]
 have hs:((bC FM.key l f.key).filterMap FM.ob).Nodup:=(List.Sublist.filterMap FM.ob List.filter_sublist).nodup h
 cases ho:f.ob with
 |none=>rw [List.filterMap_cons_none ho];exact hs
 |some g=>
  rw [List.filterMap_cons_some ho,List.nodup_cons]
  refine ⟨fun hm=> ?_,hs⟩
  obtain ⟨x,hx,e⟩:=List.mem_filterMap.1 hm
  obtain ⟨h1,h2⟩:=eu.1 hx
  exact hf g ho x h1 h2 e
theorem vC {l:List FM} (h:(l.map FM.p).Nodup) (s:Bs):((bC FM.key l s).map FM.p).Nodup:=(List.Sublist.map FM.p List.filter_sublist).nodup h
theorem vF {l:List FM} (h:(l.filterMap FM.ob).Nodup) (s:Bs):((bC FM.key l s).filterMap FM.ob).Nodup:=(List.Sublist.filterMap FM.ob List.filter_sublist).nodup h
theorem dY.Qi {w:World} {f:FM} (h:dY w f) {g:Nat} (hg:f.ob=some g):∃cur,Blk w g cur 5:=by have:=h.own;rw [hg] at this;exact this.blk
theorem wW.lay {w w':World} {d:Nat} {m:MD} {ga:Option Nat} {fs:List FM} {e:Ending} (h:wW w d m ga fs e w') {cs:Array Value} (hd:Blk w d cs 124) (hga:∀g,ga=some g->∃cur,Blk w g cur 125) (hf:∀f∈fs,dY w f)
  (pn:(fs.map FM.p).Nodup) (bn:(fs.filterMap FM.ob).Nodup) (ok:MD.Ok {m with fs:=fs.map FM.abs}):
  e= .returned (.tuple #[])/\∃v' ga',Lay w' d {m with fs:=fs.map FM.abs} v' ga' fs/\Upd (fun b=>b=d\/ga=some b) w w'/\(ga'=ga\/∀g,ga'=some g->w.heap.size<=g):=by
 obtain ⟨he,v',ga',h1,h2,h3,h4⟩:=h
 refine ⟨he,v',ga',⟨h1,h2,fun f hm=> ?_,rfl,pn,bn,ok⟩,h3,h4⟩
 have hfa:=hf f hm
 refine hfa.upd h3 ?_ ?_
 ·rintro (e'|e')
  ·exact hfa.blk.ty hd (by decide) e'
  ·obtain ⟨cur,hb⟩:=hga _ e';exact hfa.blk.ty hb (by decide) rfl
 ·intro g hg
  obtain ⟨cur,hb⟩:=hfa.Qi hg
  rintro (e'|e')
  ·exact hb.ty hd (by decide) e'
  ·obtain ⟨cur',hb'⟩:=hga _ e';exact hb.ty hb' (by decide) rfl
theorem Lay.wX {w:World} {d:Nat} {m:MD} {v:Value} {ga:Option Nat} {fs:List FM} (h:Lay w d m v ga fs):∀g,ga=some g->∃cur,Blk w g cur 125:=by
 intro g hg;have:=h.arr;rw [hg] at this;exact this.blk
def dN (w:World) (d:Nat) (S:Nat->Prop) (r:Value) (m:MD) (e:Ending) (w':World):Prop:=
 e= .returned r/\∃S',bQ w' d m S'/\Upd S w w'/\(∀b,S' b->S b\/w.heap.size<=b)
theorem dN.same {w w':World} {d:Nat} {S:Nat->Prop} {r:Value} {m:MD} {e:Ending} (he:e= .returned r) (h:bQ w' d m S) (hu:Upd S w w'):dN w d S r m e w':=⟨he,S,h,hu,fun _ hb=> .inl hb⟩
theorem Lay.count {w w':World} {d:Nat} {m:MD} {v:Value} {ga:Option Nat} {fs:List FM} (h:Lay w d m v ga fs) (hb:Blk w' d (uj m.count v) 124) (hu:Upd (fun b=>b=d) w w'):Lay w' d m.count v ga fs:=by
 refine ⟨hb,h.arr.upd hu (fun g hg e=>h.vw (by rw [hg,e])),fun f hf=>(h.files f hf).upd hu (h.Qg hf) (fun g hg e=>h.Ld hf (by rw [hg,e])), ?_,h.pn,h.bn,h.ok.count⟩
 rw [MD.bT];exact h.abs
theorem Lay.get {w:World} {d:Nat} {m:MD} {v:Value} {ga:Option Nat} {fs:List FM} (h:Lay w d m v ga fs) (s:Bs):m.get s=(aO FM.key fs s).map FM.abs:=by
 unfold MD.get;rw [h.abs];exact VI FM.abs (fun _=>rfl) fs s
theorem dR {w w':World} {d:Nat} {ga:Option Nat} {fs:List FM} (hu:Upd (fun b=>b=d) w w'):Upd (DS d ga fs) w w':=hu.mono (fun _ h=> .inl (.inl h))
theorem qV {S:Nat->Prop} {w W w2:World} {d:Nat} {m1:MD} {ga:Option Nat} {fs':List FM} {e:Ending} {r:Value} (hu:Upd S w W) (hsd:S d) (hsg:∀g,ga=some g->S g\/w.heap.size<=g) (hr:wW W d m1 ga fs' e w2) {cs:Array Value} (hd:Blk W d cs 124) (hga:∀g,ga=some g->∃cur,Blk W g cur 125) (hf:∀f∈fs',dY W f)
  (pn:(fs'.map FM.p).Nodup) (bn:(fs'.filterMap FM.ob).Nodup) (ok:MD.Ok {m1 with fs:=fs'.map FM.abs}) (hin:∀f∈fs',∀b,b=f.p\/f.ob=some b->S b\/w.heap.size<=b) {e':Ending} (he:e'= .returned r):
  dN w d S r {m1 with fs:=fs'.map FM.abs} e' w2:=by
 obtain ⟨_,v',ga',h1,h2,h3⟩:=hr.lay hd hga hf pn bn ok
 refine ⟨he,DS d ga' fs',⟨v',ga',fs',h1,rfl⟩,hu.trans h2 (fun b hb=>by rcases hb with h|h;exact .inl (h▸hsd);exact hsg b h),fun b hb=> ?_⟩
 rcases hb with h|h|⟨f,hm,h⟩
 ·exact .inl (h▸hsd)
 ·rcases h3 with h3|h3
  ·rw [h3] at h;exact hsg b h
  ·exact .inr (Nat.le_trans hu.size (h3 b h))
 ·exact hin f hm b h
set_option maxHeartbeats 400000 in
theorem Jh {w:World} {d:Nat} {m:MD} {S:Nat->Prop} (h:bQ w d m S) (hn:m.fs.length<=1099511627775) (s:ByteArray):
  Calls Tryz.prog 50 #[.pointer (some ⟨d,0,none⟩), .string s] w (dN w d S (.int .i64 (m.create s.data.toList).1) (m.create s.data.toList).2):=by
 obtain ⟨v,ga,fs,hl,rfl⟩:=h
 have RC:=y8 s
 have hfl:fs.length=m.fs.length:=by rw [hl.abs,List.length_map]
 cases hr:MD.right s.data.toList with
 |false=>
  have e1:m.create s.data.toList=(1,m):=by simp [MD.create,hr]
  rw [e1]
  rw [hr] at RC
  have RC':=Lib.hid RC
  have HL:=Lib.hid hl
  clear RC hl hfl hr e1
  go_enter Tryz.func50,Tryz.ntmps50
  go_wp2_with (go_at_call 92;refine (RC'.out _).mono ?_;rintro e w' ⟨rfl,rfl⟩)
  go_ret
  exact dN.same rfl ⟨v,ga,fs,HL.out,rfl⟩ (Upd.refl _ _)
 |true=>
  rw [hr] at RC
  have PC:=lh hl.disk hl.ok.Jb hl.ok.Jc
  have RC':=Lib.hid RC
  have PC':=Lib.hid PC
  have HL:=Lib.hid hl
  cases hd:m.count.down with
  |true=>
   have e1:m.create s.data.toList=(13,m.count):=by simp [MD.create,hr,hd]
   rw [e1]
   rw [hd] at PC
   have PC':=Lib.hid PC
   clear RC PC hl hfl hr e1 hd
   go_enter Tryz.func50,Tryz.ntmps50
   go_wp2_with (first
    |(go_at_call 92;refine (RC'.out _).mono ?_;rintro e w' ⟨rfl,rfl⟩)
    |(go_at_call 93;refine PC'.out.mono ?_;rintro e w1 ⟨rfl,h1,h2⟩;have H1:=Lib.hid (HL.out.count h1 h2);have H2:=Lib.hid h2;clear h1 h2))
   go_ret
   exact dN.same rfl ⟨v,ga,fs,H1.out,rfl⟩ (dR H2.out)
  |false=>
   have e1:m.create s.data.toList=(0,{m.count with fs:=dC MF.name m.count.fs ⟨s.data.toList,[],0⟩}):=by simp [MD.create,hr,hd]
   have hok:=hl.ok.create s.data.toList
   rw [e1] at hok ⊢
   rw [hd] at PC
   have PC':=Lib.hid PC
   have HOK:=Lib.hid hok
   have aat:fs.length<=1099511627775:=by omega
   clear RC PC hl hfl hr e1 hd hok
   go_enter Tryz.func50,Tryz.ntmps50
   go_wp2_with (first
    |(go_at_call 92;refine (RC'.out _).mono ?_;rintro e w' ⟨rfl,rfl⟩)
    |(go_at_call 93;refine PC'.out.mono ?_;rintro e w1 ⟨rfl,h1,h2⟩;have H1:=Lib.hid (HL.out.count h1 h2);have H2:=Lib.hid h2;clear h1 h2)
    |(go_at_call 94;refine (put_any (H1.out.upd (S:=dG) ((Upd.refl _ _).alloc _) (fun _ _ h=>h)) aat ⟨w1.heap.size,s, .slice none 0 0,[],0,none⟩ (Blk.new _ _ _)).mono ?_;intro e w2 h3;have H3:=Lib.hid h3;obtain ⟨rfl,_⟩:=h3))
   go_ret
   have HA:=H1.out.upd (S:=dG) ((Upd.refl _ _).alloc (.cells #[.string s, .slice none 0 0, .int .i64 ((0:Nat):Int)] 127)) (fun _ _ h=>h)
   have hnew:dY (w1.alloc (.cells #[.string s, .slice none 0 0, .int .i64 ((0:Nat):Int)] 127)) ⟨w1.heap.size,s, .slice none 0 0,[],0,none⟩:=⟨Blk.new _ _ _,Own.nil _ _ _⟩
   have Eg:(dC FM.key fs ⟨w1.heap.size,s, .slice none 0 0,[],0,none⟩).map FM.abs=dC MF.name m.count.fs ⟨s.data.toList,[],0⟩:=by
    rw [Lc FM.abs (key:=FM.key) (key':=MF.name) (fun _=>rfl),<-H1.out.abs];rfl
   have hok:=HOK.out
   rw [<-Eg] at hok ⊢
   refine qV ((dR H2.out).alloc _) (.inl rfl) (fun g h=> .inl (.inr (.inl h))) H3.out HA.disk HA.wX ?_ (xH HA.pn ?_) (xI HA.bn (fun _ h=>by cases h)) hok ?_ rfl
   ·intro f hm
    rcases iM.1 hm with rfl|⟨hm,_⟩
    ·exact hnew
    ·exact HA.files f hm
   ·intro x hx _ e
    have:=(H1.out.files x hx).blk.lt
    rw [e] at this
    exact Nat.lt_irrefl _ this
   ·intro f hm b hb
    rcases iM.1 hm with rfl|⟨hm,_⟩
    ·rcases hb with rfl|hb
     ·exact .inr H2.out.size
     ·cases hb
    ·exact .inl (.inr (.inr ⟨f,hm,hb⟩))
theorem lS {w:World} {d:Nat} {m:MD} {v:Value} {ga:Option Nat} {fs:List FM} (h:Lay w d m v ga fs) {s:Bs} {f:FM} (hf:aO FM.key fs s=some f):m.get s=some f.abs:=by rw [h.get,hf];rfl
theorem nP {w:World} {d:Nat} {m:MD} {v:Value} {ga:Option Nat} {fs:List FM} (h:Lay w d m v ga fs) {s:Bs} (hf:aO FM.key fs s=none):m.get s=none:=by rw [h.get,hf];rfl
set_option maxHeartbeats 400000 in
theorem Ji {w:World} {d:Nat} {m:MD} {S:Nat->Prop} (h:bQ w d m S) (hn:m.fs.length<=1099511627775) (s:ByteArray):
  Calls Tryz.prog 85 #[.pointer (some ⟨d,0,none⟩), .string s] w (dN w d S (.int .i64 (m.remove s.data.toList).1) (m.remove s.data.toList).2):=by
 obtain ⟨v,ga,fs,hl,rfl⟩:=h
 have hfl:fs.length<=1099511627776:=by
   have:fs.length=m.fs.length:=by rw [hl.abs,List.length_map]
   omega
 have HL:=Lib.hid hl
 cases hg:aO FM.key fs s.data.toList with
 |none=>
  have e1:m.remove s.data.toList=(22,m):=by simp [MD.remove,nP hl hg]
  rw [e1]
  have FC:=Lib.hid (lg hl s hfl hg)
  clear hl hg e1
  go_enter Tryz.func85,Tryz.ntmps85
  go_wp2_with (go_at_call 95;refine FC.out.mono ?_;rintro e w' ⟨rfl,rfl⟩)
  go_ret
  exact dN.same rfl ⟨v,ga,fs,HL.out,rfl⟩ (Upd.refl _ _)
 |some f=>
  have FC:=Lib.hid (kZ hl s hfl hg)
  have PC:=lh hl.disk hl.ok.Jb hl.ok.Jc
  have hget:=lS hl hg
  cases hd:m.count.down with
  |true=>
   have e1:m.remove s.data.toList=(13,m.count):=by simp [MD.remove,hget,hd]
   rw [e1]
   rw [hd] at PC
   have PC':=Lib.hid PC
   clear PC hl hg e1 hd hget
   go_enter Tryz.func85,Tryz.ntmps85
   go_wp2_with (first
    |(go_at_call 95;refine FC.out.mono ?_;rintro e w' ⟨rfl,rfl⟩)
    |(go_at_call 93;refine PC'.out.mono ?_;rintro e w1 ⟨rfl,h1,h2⟩;have H1:=Lib.hid (HL.out.count h1 h2);have H2:=Lib.hid h2;clear h1 h2))
   go_ret
   exact dN.same rfl ⟨v,ga,fs,H1.out,rfl⟩ (dR H2.out)
  |false=>
   have e1:m.remove s.data.toList=(0,{m.count with fs:=bC MF.name m.fs s.data.toList}):=by simp [MD.remove,hget,hd]
   have hok:=hl.ok.remove s.data.toList
   rw [e1] at hok ⊢
   rw [hd] at PC
   have PC':=Lib.hid PC
   have HOK:=Lib.hid hok
   have HG:=Lib.hid hg
   clear PC hl hg e1 hd hget hok
   go_enter Tryz.func85,Tryz.ntmps85
   go_wp2_with (first
    |(go_at_call 95;refine FC.out.mono ?_;rintro e w' ⟨rfl,rfl⟩)
    |(go_at_call 93;refine PC'.out.mono ?_;rintro e w1 ⟨rfl,h1,h2⟩;have H1:=Lib.hid (HL.out.count h1 h2);have H2:=Lib.hid h2;clear h1 h2)
    |(go_at_call 130;refine (Gq H1.out hfl s f HG.out).mono ?_;intro e w2 h3;have H3:=Lib.hid h3;obtain ⟨rfl,_⟩:=h3))
   go_ret
   have Eg:(bC FM.key fs s.data.toList).map FM.abs=bC MF.name m.fs s.data.toList:=by
    rw [map_drop FM.abs (key:=FM.key) (key':=MF.name) (fun _=>rfl),<-HL.out.abs]
   have hok:=HOK.out
   rw [<-Eg] at hok ⊢
   refine qV (dR H2.out) (.inl rfl) (fun g h=> .inl (.inr (.inl h))) H3.out H1.out.disk H1.out.wX (fun f hm=>H1.out.files f (eu.1 hm).1) (vC H1.out.pn _) (vF H1.out.bn _) hok (fun f hm b hb=> .inl (.inr (.inr ⟨f,(eu.1 hm).1,hb⟩))) rfl
theorem dY.Y1 {w w':World} {d:Nat} {f:FM} {ga:Option Nat} (h:dY w f) (hu:Upd (fun b=>b=d\/ga=some b) w w') {cs:Array Value} (hd:Blk w d cs 124) (hga:∀g,ga=some g->∃cur,Blk w g cur 125):dY w' f:=by
 refine h.upd hu ?_ ?_
 ·rintro (e'|e')
  ·exact h.blk.ty hd (by decide) e'
  ·obtain ⟨cur,hb⟩:=hga _ e';exact h.blk.ty hb (by decide) rfl
 ·intro g hg
  obtain ⟨cur,hb⟩:=h.Qi hg
  rintro (e'|e')
  ·exact hb.ty hd (by decide) e'
  ·obtain ⟨cur',hb'⟩:=hga _ e';exact hb.ty hb' (by decide) rfl
theorem wY {l:List FM} (h:(l.map FM.p).Nodup) {x y:FM} (hx:x∈l) (hy:y∈l) (e:x.p=y.p):x=y:=by
 have hp:l.Pairwise fun a b=>a.p≠b.p:=List.pairwise_map.1 h
 obtain ⟨i,hi,rfl⟩:=List.mem_iff_getElem.1 hx
 obtain ⟨j,hj,rfl⟩:=List.mem_iff_getElem.1 hy
 rcases Nat.lt_trichotomy i j with h'|h'|h'
 ·exact absurd e (List.pairwise_iff_getElem.1 hp i j hi hj h')
 ·subst h';rfl
 ·exact absurd e.symm (List.pairwise_iff_getElem.1 hp j i hj hi h')
theorem qf {l:List FM} (h:(l.filterMap FM.ob).Nodup) {x y:FM} (hx:x∈l) (hy:y∈l) {g:Nat} (h1:x.ob=some g) (h2:y.ob=some g):x=y:=by
 have hp:l.Pairwise fun a b=>∀c,a.ob=some c->∀e,b.ob=some e->c≠e:=List.pairwise_filterMap.1 h
 obtain ⟨i,hi,rfl⟩:=List.mem_iff_getElem.1 hx
 obtain ⟨j,hj,rfl⟩:=List.mem_iff_getElem.1 hy
 rcases Nat.lt_trichotomy i j with h'|h'|h'
 ·exact absurd rfl (List.pairwise_iff_getElem.1 hp i j hi hj h' g h1 g h2)
 ·subst h';rfl
 ·exact absurd rfl (List.pairwise_iff_getElem.1 hp j i hj hi h' g h2 g h1)
theorem y9 {w1 w2:World} {d:Nat} {m1 m2:MD} {v v2:Value} {ga ga2:Option Nat} {fs:List FM} {f:FM} {s:Bs} (h1:Lay w1 d m1 v ga fs) (hm:f∈fs) (hk:f.key=s) (h2:Lay w2 d m2 v2 ga2 (bC FM.key fs s)) {cs:Array Value} (hf:Blk w2 f.p cs 127) (c:ByteArray):
  Lay (w2.setCell ⟨f.p,0,none⟩ (.string c)) d m2 v2 ga2 (bC FM.key fs s):=by
 refine h2.upd (S:=fun b=>b=f.p) ((Upd.refl (fun b=>b=f.p) _).setCell (p:=⟨f.p,0,none⟩) (.inl rfl) _) ?_
 rintro b (rfl|hb|⟨x,hx,hb⟩) e
 ·exact h2.disk.ty hf (by decide) e
 ·obtain ⟨cur,hb'⟩:=h2.wX _ hb;exact hb'.ty hf (by decide) e
 ·obtain ⟨hx1,hx2⟩:=eu.1 hx
  rcases hb with hb|hb
  ·have:=wY h1.pn hx1 hm (hb.symm.trans e)
   subst this;exact hx2 hk
  ·obtain ⟨cur,hb'⟩:=(h2.files x hx).Qi hb
   exact hb'.ty hf (by decide) e
set_option maxHeartbeats 800000 in
theorem Jj {w:World} {d:Nat} {m:MD} {S:Nat->Prop} (h:bQ w d m S) (hn:m.fs.length<=1099511627775) (a c:ByteArray):
  Calls Tryz.prog 128 #[.pointer (some ⟨d,0,none⟩), .string a, .string c] w (dN w d S (.int .i64 (m.rename a.data.toList c.data.toList).1) (m.rename a.data.toList c.data.toList).2):=by
 obtain ⟨v,ga,fs,hl,rfl⟩:=h
 have VL:fs.length=m.fs.length:=by rw [hl.abs,List.length_map]
 have hfl:fs.length<=1099511627776:=by omega
 have Qj:(bC FM.key fs a.data.toList).length<=1099511627775:=Nat.le_trans (List.length_filter_le _ _) (by omega)
 have HL:=Lib.hid hl
 have RC:=y8 c
 cases hg:aO FM.key fs a.data.toList with
 |none=>
  have e1:m.rename a.data.toList c.data.toList=(22,m):=by simp [MD.rename,nP hl hg]
  rw [e1]
  have FC:=Lib.hid (lg hl a hfl hg)
  clear hl hg e1 VL RC Qj
  go_enter Tryz.func128,Tryz.ntmps128
  go_wp2_with (go_at_call 95;refine FC.out.mono ?_;rintro e w' ⟨rfl,rfl⟩)
  go_ret
  exact dN.same rfl ⟨v,ga,fs,HL.out,rfl⟩ (Upd.refl _ _)
 |some f=>
  have FC:=Lib.hid (kZ hl a hfl hg)
  have PC:=lh hl.disk hl.ok.Jb hl.ok.Jc
  have hget:=lS hl hg
  cases hr:MD.right c.data.toList with
  |false=>
   have e1:m.rename a.data.toList c.data.toList=(1,m):=by simp [MD.rename,hget,hr]
   rw [e1]
   rw [hr] at RC
   have RC':=Lib.hid RC
   clear hl hg e1 VL RC Qj PC hr hget
   go_enter Tryz.func128,Tryz.ntmps128
   go_wp2_with (first
    |(go_at_call 95;refine FC.out.mono ?_;rintro e w' ⟨rfl,rfl⟩)
    |(go_at_call 92;refine (RC'.out _).mono ?_;rintro e w' ⟨rfl,rfl⟩))
   go_ret
   exact dN.same rfl ⟨v,ga,fs,HL.out,rfl⟩ (Upd.refl _ _)
  |true=>
   rw [hr] at RC
   have RC':=Lib.hid RC
   cases hd:m.count.down with
   |true=>
    have e1:m.rename a.data.toList c.data.toList=(13,m.count):=by simp [MD.rename,hget,hd,hr]
    rw [e1]
    rw [hd] at PC
    have PC':=Lib.hid PC
    clear PC hl hg e1 hd hget VL RC Qj hr
    go_enter Tryz.func128,Tryz.ntmps128
    go_wp2_with (first
     |(go_at_call 95;refine FC.out.mono ?_;rintro e w' ⟨rfl,rfl⟩)
     |(go_at_call 92;refine (RC'.out _).mono ?_;rintro e w' ⟨rfl,rfl⟩)
     |(go_at_call 93;refine PC'.out.mono ?_;rintro e w1 ⟨rfl,h1,h2⟩;have H1:=Lib.hid (HL.out.count h1 h2);have H2:=Lib.hid h2;clear h1 h2))
    go_ret
    exact dN.same rfl ⟨v,ga,fs,H1.out,rfl⟩ (dR H2.out)
   |false=>
    have e1:m.rename a.data.toList c.data.toList=(0,{m.count with fs:=dC MF.name (bC MF.name m.fs a.data.toList) {f.abs with name:=c.data.toList}}):=by simp [MD.rename,hget,hd,hr]
    have hok:=hl.ok.rename a.data.toList c.data.toList
    have aau:MD.Ok {m.count with fs:=(bC FM.key fs a.data.toList).map FM.abs}:=by
     have:=hl.ok.count.drop a.data.toList
     rw [MD.bT,hl.abs,<-map_drop FM.abs (key:=FM.key) (key':=MF.name) (fun _=>rfl)] at this
     exact this
    rw [e1] at hok ⊢
    rw [hd] at PC
    have PC':=Lib.hid PC
    have HOK:=Lib.hid hok
    have HOD:=Lib.hid aau
    have HG:=Lib.hid hg
    clear PC hl hg e1 hd hget hok VL RC hr aau
    go_enter Tryz.func128,Tryz.ntmps128
    go_wp2_with (first
     |(go_at_call 95;refine FC.out.mono ?_;rintro e w' ⟨rfl,rfl⟩)
     |(go_at_call 92;refine (RC'.out _).mono ?_;rintro e w' ⟨rfl,rfl⟩)
     |(go_at_call 93;refine PC'.out.mono ?_;rintro e w1 ⟨rfl,h1,h2⟩;have H1:=Lib.hid (HL.out.count h1 h2);have H2:=Lib.hid h2;clear h1 h2)
     |(
       go_at_call 130;refine (Gq H1.out hfl a f HG.out).mono ?_;intro e w2 h3
       obtain ⟨rfl,v2,ga2,h4,h5,h6⟩:=h3.lay H1.out.disk H1.out.wX (fun f hm=>H1.out.files f (eu.1 hm).1) (vC H1.out.pn _) (vF H1.out.bn _) HOD.out
       have hfa:=(H1.out.files f (get_mem HG.out).1).Y1 h5 H1.out.disk H1.out.wX
       have H4:=Lib.hid h4;have H5:=Lib.hid h5;have H6:=Lib.hid h6;have HF:=Lib.hid hfa
       have cf:=hfa.blk.cell 0
       have ff:=hfa.blk.frozen 0
       clear h3 h4 h5 h6 hfa)
     |(go_at_call 94;refine (put_any (y9 H1.out (get_mem HG.out).1 (get_mem HG.out).2 H4.out HF.out.blk c) Qj {f with name:=c} (HF.out.blk.set 0 (.string c))).mono ?_;intro e w4 h7;have H7:=Lib.hid h7;obtain ⟨rfl,_⟩:=h7))
    go_ret
    have hl3:=y9 H1.out (get_mem HG.out).1 (get_mem HG.out).2 H4.out HF.out.blk c
    have hfm:=(get_mem HG.out).1
    have hnew:dY (w2.setCell ⟨f.p,0,none⟩ (.string c)) {f with name:=c}:=⟨HF.out.blk.set 0 (.string c),HF.out.own.setOther (H1.out.pY hfm hfm) _⟩
    have Eg:(dC FM.key (bC FM.key fs a.data.toList) {f with name:=c}).map FM.abs=dC MF.name (bC MF.name m.fs a.data.toList) {f.abs with name:=c.data.toList}:=by
     rw [Lc FM.abs (key:=FM.key) (key':=MF.name) (fun _=>rfl),map_drop FM.abs (key:=FM.key) (key':=MF.name) (fun _=>rfl),<-HL.out.abs];rfl
    have hok:=HOK.out
    rw [<-Eg] at hok ⊢
    have hu3:Upd (DS d ga fs) w' (w2.setCell ⟨f.p,0,none⟩ (.string c)):=
     ((dR H2.out).trans H5.out (fun b hb=> .inl (by rcases hb with h|h;exact .inl h;exact .inr (.inl h)))).setCell (p:=⟨f.p,0,none⟩) (.inl (.inr (.inr ⟨f,hfm, .inl rfl⟩))) _
    refine qV hu3 (.inl rfl) (fun g hg=> ?_) H7.out hl3.disk hl3.wX ?_ (xH hl3.pn ?_) (xI hl3.bn ?_) hok ?_ rfl
    ·rcases H6.out with h|h
     ·rw [h] at hg;exact .inl (.inr (.inl hg))
     ·exact .inr (Nat.le_trans H2.out.size (h g hg))
    ·intro x hx
     rcases iM.1 hx with rfl|⟨hx,_⟩
     ·exact hnew
     ·exact hl3.files x hx
    ·intro x hx _ e
     obtain ⟨hx1,hx2⟩:=eu.1 hx
     have:=wY H1.out.pn hx1 hfm e
     subst this;exact hx2 (get_mem HG.out).2
    ·intro g hg x hx _ e
     obtain ⟨hx1,hx2⟩:=eu.1 hx
     have:=qf H1.out.bn hx1 hfm e hg
     subst this;exact hx2 (get_mem HG.out).2
    ·intro x hx b hb
     rcases iM.1 hx with rfl|⟨hx,_⟩
     ·exact .inl (.inr (.inr ⟨f,hfm,hb⟩))
     ·exact .inl (.inr (.inr ⟨x,(eu.1 hx).1,hb⟩))
end Go.Proofs.YtbnkdnlfdofepaaGreat
