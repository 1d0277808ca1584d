/- Package kv: tidy. Package kv: Open. What is there in a database, plainly: Put, Flush, Merge, ranges. No program. A database with power: what its calls tell and make, in few words. Layer 11: a fresh disk, known(). What the functions of the layers up to 11 are, in the machine. -/
import Derived.Test.YtbnkdnlfdofepaaGreatXG
import Derived.Test.YtbnkdnlfdofepaaGreatML
import Derived.KernelRfl
set_option linter.unusedVariables false
set_option linter.unusedSimpArgs false
namespace Go.Proofs.YtbnkdnlfdofepaaGreat
namespace Am
open Go.RowKit
set_option maxRecDepth 100000
def xA:BF:=⟨9,[0,1,4],(.seq (.reg [mvS 2 (.mv (.const (.bool false)))]) (.seq (.reg [ceS 5 0,ceS 6 1,clE 7 158 [eV 5,eV 6],mvE 8 (.bin .geq .no (eV 7) (.const (.int .i64 0))),csE 2 8]) .ret)),[.slot (sL 2)]⟩
def uQ:BF:=⟨19,[0,1,4,5,7,8,9,16],(.seq (.reg [mvS 2 (.mv (.const (.int .i64 0)))]) (.seq (.seq (.reg [ceS 6 0,mvS 4 (.ah (eV 6)),mvS 5 (.mv (.const (.int .i64 0)))]) (.block 0 (.loop (.seq (.reg [mvS 6 (.bin .lss .no (sL 5) (sL 4))]) (.seq (.cond (sL 6) .skip (.exit 0)) (.seq (.block 1 (.seq (.reg [ceS 10 5,csE 3 10]) (.seq (.reg [ceS 11 1,ceS 12 0,ceS 13 3,mvE 14 (.aP 1 (eV 12) (eV 13)),ldE 15 14,mvS 7 (.bin .eql .no (eV 11) (eV 15))]) (.cond (sL 7) (.seq (.reg [ceS 17 3,csE 2 17]) .ret) .skip)))) (.reg [mvE 18 (.bin .add .no (sL 5) (.const (.int .i64 1))),csE 5 18]))))))) (.seq (.reg [mvS 2 (.mv (.const (.int .i64 (-1))))]) .ret))),[.slot (sL 2)]⟩
def rW:BF:=⟨66,[0,2,4,6,7,18,19,20,21,34,35,36,37,58],(.seq (.reg [ceS 8 0,nlE 9 8,faE 10 6 9,ldE 11 10,clE 12 83 [eV 11],efE 13 (.aF 1 1 [(.str [])] [(0,1,(eV 12))]),csE 1 13]) (.seq (.seq (.reg [ceS 14 0,nlE 15 14,faE 16 2 15,faE 17 0 16,mvS 5 (.ld1 (eV 17)),mvS 6 (.ah (sL 5)),mvS 7 (.mv (.const (.int .i64 0)))]) (.block 0 (.loop (.seq (.reg [mvS 8 (.bin .lss .no (sL 7) (sL 6))]) (.seq (.cond (sL 8) .skip (.exit 0)) (.seq (.block 1 (.seq (.reg [mvE 22 (.aP 1 (sL 5) (sL 7)),ldE 23 22,csE 2 23]) (.reg [ceS 24 1,ceS 25 2,clE 26 89 [eV 25],efE 27 (.aF 1 1 [(.str [])] [(0,1,(eV 26))]),efE 28 (.append 1 16 (eV 24) (eV 27)),csE 1 28]))) (.reg [mvE 29 (.bin .add .no (sL 7) (.const (.int .i64 1))),csE 7 29]))))))) (.seq (.reg [ceS 30 0,nlE 31 30,faE 32 0 31,ldE 33 32, .mk none (.slot 9) (.call 49 [eV 33]),mvS 10 (.ah (sL 9)),mvS 11 (.mv (.const (.int .i64 0)))]) (.block 2 (.loop (.seq (.reg [mvS 12 (.bin .lss .no (sL 11) (sL 10))]) (.seq (.cond (sL 12) .skip (.exit 2)) (.seq (.block 3 (.seq (.reg [mvE 38 (.aP 1 (sL 9) (sL 11)),ldE 39 38,csE 3 39]) (.seq (.reg [ceS 40 3,mvE 41 (.idx (eV 40) (.const (.int .i64 0))),mvE 42 (.bin .eql .no (eV 41) (.const (.int .u8 116))),ceE 43 42, .mk (some ((eV 43),false)) (.env 44) (.mov (.mv (sL 3))), .mk (some ((eV 43),false)) (.env 45) (.mov (.idx (eV 44) (.const (.int .i64 0)))), .mk (some ((eV 43),false)) (.env 46) (.mov (.bin .eql .no (eV 45) (.const (.int .u8 119)))),mvE 47 (.pick (eV 43) (.const (.bool true)) (eV 46)),ceE 48 47, .mk (some ((eV 48),false)) (.env 49) (.mov (.mv (sL 3))), .mk (some ((eV 48),false)) (.env 50) (.mov (.bin .eql .no (eV 49) (.const (.str [110,101,119])))),mvE 51 (.pick (eV 48) (.const (.bool true)) (eV 50)),csE 4 51]) (.seq (.reg [ceS 52 4,ceE 53 52, .mk (some ((eV 53),true)) (.env 54) (.mov (.mv (sL 1))), .mk (some ((eV 53),true)) (.env 55) (.mov (.mv (sL 3))), .mk (some ((eV 53),true)) (.env 56) (.call 124 [eV 54,eV 55]), .mk (some ((eV 53),true)) (.env 57) (.mov (.jd (eV 56))),mvS 13 (.pick (eV 53) (eV 57) (.const (.bool false)))]) (.cond (sL 13) (.reg [ceS 59 0,nlE 60 59,faE 61 0 60,ldE 62 61,ceS 63 3,clE 64 85 [eV 62,eV 63]]) .skip))))) (.reg [mvE 65 (.bin .add .no (sL 11) (.const (.int .i64 1))),csE 11 65]))))))))),[]⟩
theorem J8 {D:Dp MD} {l:List St1} {e:En} {t:List AV} {h:Hp MD} {b:BC} {Q:R MD->Prop} (P:List AV->Hp MD->Prop) (H:WR D l e t h (Oi P (mV D b Q))) (H2:∀t' h',P t' h'->WB D b t' h' Q):WR D l e t h (mV D b Q):=by
 have key:∀r,Oi P (mV D b Q) r->mV D b Q r:=fun r q=>by
  cases r with
  |norm t h=>exact ⟨H2 _ _ q.out⟩
  |_=>exact q.out
 obtain ⟨r,h1,h2,h3⟩:=H.out
 exact ⟨r,h1,h2,key _ h3⟩
section
variable {X:Type} {e:En} {t:List AV} {h:Hp X}
theorem Ug {q:Eq} {x y:Od} {a b:List UInt8} (hx:x.ev e t= .str a) (hy:y.ev e t= .str b) (hab:a=b):(Mv.bin .eql q x y).ev e t h=some (.bool true):=by
 rw [uG hx hy,hab]
 simp
theorem Uh {q:Eq} {x y:Od} {a b:List UInt8} (hx:x.ev e t= .str a) (hy:y.ev e t= .str b) (hab:a≠b):(Mv.bin .eql q x y).ev e t h=some (.bool false):=by
 rw [uG hx hy,beq_false_of_ne hab]
theorem Xu {x i:Od} {k:IntKind} {b:UInt8} {s:List UInt8} (hx:x.ev e t= .str (b::s)) (hi:i.ev e t= .int k 0):(Mv.idx x i).ev e t h=some (.int .u8 b.toNat):=by
 simp only [Mv.ev,hx,hi,AV.onStr,nOf]
 rfl
end
section
variable {X:Type} {E:Nat->Option (Ent X)}
theorem Ui (hE:∀f e,E f=some e->e.plain) (hf:E 158=some (.bc uQ)) {h:Hp X} {v:AV} {l:List Bs} {x:Bs} (hr:RS h 1 v l.length (l.map .str)) (hlen:l.length<=maxLen):
  WF (lim E) 158 [v, .str x] h fun r h'=>h'=h/\∃k:Int,r= .int .i64 k/\(0<=k↔x∈l):=by
 refine aC hE hf rfl ?_
 simp only [uQ,mvE,mvS,clE,efE,ceS,ceE,csE,faE,nlE,ldE,lnE,exE,eV,sL,kI,List.map,getS]
 have hm:(maxLen:Nat)=9223372036854775807:=rfl
 repeat first|refine ZA ?_|refine BV (hr.ah (by rfl)) ?_|refine BP ?_|refine BQ ?_
 refine aQ (fun n t h'=>h'=h/\∃(j:Nat) (s3 s6 s7:AV),j<=l.length/\n=l.length - j/\(∀(i:Nat),i < j->l[i]?≠some x)/\t=[v, .str x, .int .i64 0,s3, .int .i64 l.length, .int .i64 j,s6,s7]) ?_ l.length _ _ ⟨rfl,0,_,_,_,by omega,by omega,fun i hi=>by omega,rfl⟩
 rintro n t h' ⟨rfl,j,s3,s6,s7,hj,hn,hx,rfl⟩
 by_cases hlt:j < l.length
 ·obtain ⟨g,o,pa,la⟩:=hr.at2 hlt
  have la:∀{e:En} {t:List AV} {y:Od},y.ev e t= .ptr g o->(Mv.ld1 y).ev e t h'=some (.str l[j]):=fun hy=>(la (S:=NoB) (Keep.refl _ _) (fun _ _ q=>q) hy).trans (by rw [List.getElem?_map,List.getElem?_eq_getElem hlt];rfl)
  by_cases he:x=l[j]
  ·repeat first|refine ZA ?_|refine BV (pa rfl rfl) ?_|refine BV (la rfl) ?_|refine BV (Ug rfl rfl he) ?_|refine BP ?_|refine BQ ?_
   exact ⟨rfl,j,rfl,⟨fun _=>by rw [he];exact List.getElem_mem _,fun _=>by omega⟩⟩
  ·repeat first|refine ZA ?_|refine BV (pa rfl rfl) ?_|refine BV (la rfl) ?_|refine BV (Uh rfl rfl he) ?_|refine BP ?_|refine BQ ?_
   refine aj (l.length - (j+1)) (by omega) ⟨rfl,j+1,_,_,_,by omega,rfl,fun i hi=> ?_,rfl⟩
   by_cases hij:i < j
   ·exact hx i hij
   ·obtain rfl:i=j:=by omega
    rw [List.getElem?_eq_getElem hlt]
    exact fun q=>he (Option.some.inj q).symm
 ·repeat first|refine ZA ?_|refine BP ?_|refine BQ ?_
  refine ⟨rfl, -1,rfl,⟨fun q=>by omega,fun q=> ?_⟩⟩
  obtain ⟨i,hi⟩:=List.mem_iff_getElem?.1 q
  have:=(List.getElem?_eq_some_iff.1 hi).1
  exact absurd hi (hx i (by omega))
theorem Uj (hE:∀f e,E f=some e->e.plain) (hf:E 124=some (.bc xA)) (hi:E 158=some (.bc uQ)) {h:Hp X} {v:AV} {l:List Bs} {x:Bs} (hr:RS h 1 v l.length (l.map .str)) (hlen:l.length<=maxLen):
  WF (lim E) 124 [v, .str x] h fun r h'=>h'=h/\r= .bool (l.contains x):=by
 refine aC hE hf rfl ?_
 simp only [xA,mvE,mvS,clE,efE,ceS,ceE,csE,faE,nlE,ldE,lnE,exE,eV,sL,kI,List.map,getS]
 repeat first|refine ZA ?_|refine BP ?_|refine BQ ?_
 refine ag rfl ((Ui hE hi hr hlen).mono fun r h1 ⟨e1,k,e2,hk⟩=> ?_)
 subst e1 e2
 by_cases h0:0<=k
 ·repeat first|refine ZA ?_|refine BP ?_|refine BQ ?_
  refine ⟨rfl, ?_⟩
  rw [List.contains_iff_mem.2 (hk.1 h0)]
  rfl
 ·repeat first|refine ZA ?_|refine BP ?_|refine BQ ?_
  refine ⟨rfl, ?_⟩
  have:l.contains x=false:=by
   cases hc:l.contains x with
   |false=>rfl
   |true=>exact absurd (hk.2 (List.contains_iff_mem.1 hc)) h0
  rw [this]
  rfl
end
structure KwO (E:Nat->Option (Ent MD)):Prop extends KwM E where
 acG:E 124=some (.bc xA)
 acH:E 158=some (.bc uQ)
 names:E 49=some (.nat vH)
 tidy:E 76=some (.bc rW)
section
variable {E:Nat->Option (Ent MD)}
set_option maxHeartbeats 4000000 in
theorem Xv (hE:∀f e,E f=some e->e.plain) (T:KwO E) {h:Hp MD} {db gd gl gm:Nat} {vm vt vn:AV} {Fm R:Nat->Prop} {each:Bool} {K:KS} (D:DbR h db gd gl gm vm vt vn Fm R each K) (hfl:K.x.fs.length<=900000) (hns:K.ns.length<=900000) (hnb:∀n∈K.ns,n < 100000000) (hr:∀f∈K.x.fs,f.name≠[]):
  WF (lim E) 76 [.ptr db 0] h fun _ h'=>DbR h' db gd gl gm vm vt vn Fm R each {K with x:=kV K.x (K.nm::K.ns.map tnm)}/\Keep (az gd) h h':=by
 refine aC hE T.tidy rfl ?_
 simp only [rW,mvE,mvS,clE,efE,ceS,ceE,csE,faE,nlE,ldE,lnE,exE,eV,sL,kI,List.map,getS]
 have hmx:(maxLen:Nat)=9223372036854775807:=rfl
 repeat first|refine ZA ?_|refine BV (ak rfl) ?_|refine BV (au D.bx rfl rfl) ?_|refine BP ?_|refine BQ ?_
 refine ag rfl ((Ht hE T.w D.log).mono fun r h1 ⟨e1,e2⟩=> ?_)
 subst e1 e2
 repeat first|refine ZA ?_|refine BW (dO (c:= .str K.nm) rfl rfl rfl) ?_|refine BP ?_|refine BQ ?_
 obtain ⟨h2,hh2⟩:∃h2:Hp MD,h2=h1.push (.rw [.str K.nm]):=⟨_,rfl⟩
 have k2:Keep NoB h1 h2:=by rw [hh2];exact Keep.push _ _ _
 have o2:OS h2 1 (.slice 1 h1.n 0 1 (some 1)) 1 [.str K.nm]:=by rw [hh2];exact vT
 have n2:h2.n=h1.n+1:=by rw [hh2];rfl
 refine aJ (h':=h2) (by rw [hh2];first|done|rfl) ?_
 clear hh2
 have D2:=D.up k2
 repeat first|refine ZA ?_|refine BV (au D2.bx rfl rfl) ?_|refine BV (D2.ns.ah (by rfl)) ?_|refine BP ?_|refine BQ ?_
 refine aQ (fun q t g=>∃(s1 s2 s8:AV) (j:Nat),j<=K.ns.length/\q=K.ns.length - j/\Keep NoB h1 g/\OS g 1 s1 (1+j) ((K.nm::(K.ns.take j).map tnm).map .str)/\(∀k,blk s1 k->h1.n<=k)/\t=[.ptr db 0,s1,s2, .bot, .bot,vn, .int .i64 K.ns.length, .int .i64 j,s8, .bot, .bot, .bot, .bot, .bot]) ?_ K.ns.length _ _ ⟨_,_,_,0,by omega,by omega,k2,o2,fun k q=>by have q:k=h1.n:=q;omega,rfl⟩
 clear o2 D2
 rintro q t g ⟨s1,s2,s8,j,hj,hq,Kp,o,lo,rfl⟩
 have gn:=Kp.n
 have Dg:=D.up Kp
 by_cases hlt:j < K.ns.length
 ·obtain ⟨ga,oa,pa,la⟩:=Dg.ns.at2 (i:=j) (by omega)
  have la:∀{e:En} {t:List AV} {x:Od},x.ev e t= .ptr ga oa->(Mv.ld1 x).ev e t g=some (niv K.ns[j]):=fun hx=>(la (S:=NoB) (Keep.refl _ _) (fun _ _ q=>q) hx).trans (by rw [List.getElem?_map,List.getElem?_eq_getElem hlt];rfl)
  repeat first|refine ZA ?_|refine BV (pa rfl rfl) ?_|refine BV (la rfl) ?_|refine BP ?_|refine BQ ?_
  refine ag rfl ((vV hE T.tn T.dg (hnb _ (List.getElem_mem _))).mono fun r h3 ⟨e3,e4⟩=> ?_)
  subst e3 e4
  repeat first|refine ZA ?_|refine BW (dO (c:= .str (tnm K.ns[j])) rfl rfl rfl) ?_|refine BP ?_|refine BQ ?_
  refine aA rfl rfl (o.up (Keep.push _ _ _)) Nat.zero_lt_one (bH (n:=1) rfl) (by omega) (by omega) fun v' h4 a1 a2 a3=> ?_
  repeat first|refine ZA ?_|refine BP ?_|refine BQ ?_
  refine aj (K.ns.length - (j+1)) (by omega) ⟨v',_,_,j+1,by omega,rfl,(Kp.and (Keep.push _ _ _)).trans a2 (fun k z1 z2=>by have:=lo k z2;omega), ?_,fun k z=> ?_,rfl⟩
  ·rw [take_snoc (List.getElem?_eq_getElem hlt),List.map_append,<-List.cons_append,List.map_append]
   exact a1
  ·rcases a3 k z with z|z
   ·exact lo k z
   ·simp only [bJ] at z;omega
 ·obtain rfl:j=K.ns.length:=by omega
  rw [List.take_length] at o
  repeat first|refine ZA ?_|refine BV (ak rfl) ?_|refine BV (au Dg.bx rfl rfl) ?_|refine BP ?_|refine BQ ?_
  refine nY rfl ((V8 hE T.names Dg.dk (by omega)).mono fun nv h3 ⟨k3,r3,l3⟩=> ?_)
  have D3:=Dg.up k3
  have o3:=o.up k3
  have n3:=k3.n
  generalize hown:K.nm::K.ns.map tnm=own at*
  have hol:own.length=1+K.ns.length:=by rw [<-hown];simp;omega
  generalize Fq:K.x.fs.map MF.name=names at*
  have hnl:K.x.fs.length=names.length:=by rw [<-Fq];simp
  have e3:(K.x.fs.map fun f=>AV.str f.name)=names.map .str:=by rw [<-Fq,List.map_map];rfl
  rw [e3,hnl] at r3
  have hne:∀s∈names,s≠[]:=fun s hs=>by
   rw [<-Fq] at hs
   obtain ⟨f,hf,rfl⟩:=List.mem_map.1 hs
   exact hr f hf
  have aat:names.length<=900000:=by omega
  repeat first|refine ZA ?_|refine BV (r3.ah (by rfl)) ?_|refine BP ?_|refine BQ ?_
  refine aQ (fun q t g5=>∃(s2 s3 s4 s12 s13:AV) (j:Nat),j<=names.length/\q=names.length - j/\Keep (az gd) h3 g5/\Ob g5 gd (iJ K.x ((names.take j).filter fun s=>pI s && !own.contains s))/\t=[.ptr db 0,s1,s2,s3,s4,vn, .int .i64 K.ns.length, .int .i64 K.ns.length, .bool false,nv, .int .i64 names.length, .int .i64 j,s12,s13]) ?_ names.length _ _ ⟨_,_,_,_,_,0,by omega,by omega,Keep.refl _ _,D3.dk,rfl⟩
  rintro q t g5 ⟨s2',s3,s4,s12,s13,j,hj,hq,K5,o5,rfl⟩
  have ldg:=D.dk.lt
  have nv5:=r3.keep K5 (fun k z1 z2=>by have:=l3 k z1;have z2:k=gd:=z2;omega)
  have o35:=o3.keep K5 (fun k z1 z2=>by have:=lo k z1;have z2:k=gd:=z2;omega)
  have d5:=D3.bx.keep K5 (D.ap.1)
  have ro5:RS g5 1 s1 own.length (own.map .str):=by rw [hol];exact o35.rs
  have hfr:=Ae ((names.take j).filter fun s=>pI s && !own.contains s) K.x
  by_cases hlt:j < names.length
  ·obtain ⟨ga,oa,pa,la⟩:=nv5.at2 (i:=j) (by omega)
   have hn0:=hne names[j] (List.getElem_mem _)
   have hsn:=take_snoc (List.getElem?_eq_getElem hlt)
   have la:∀{e:En} {t:List AV} {x:Od},x.ev e t= .ptr ga oa->(Mv.ld1 x).ev e t g5=some (.str names[j]):=fun hx=>(la (S:=NoB) (Keep.refl _ _) (fun _ _ q=>q) hx).trans (by rw [List.getElem?_map,List.getElem?_eq_getElem hlt];rfl)
   generalize names[j]=nm at*
   obtain ⟨b,s,hbs⟩:∃b s,nm=b::s:=by
    cases nm with
    |nil=>exact absurd rfl hn0
    |cons b s=>exact ⟨b,s,rfl⟩
   have hidx:∀{e:En} {t:List AV} {x i:Od} {k:IntKind} {hh:Hp MD},x.ev e t= .str nm->i.ev e t= .int k 0->(Mv.idx x i).ev e t hh=some (.int .u8 b.toNat):=fun {e t x i k hh} hx hi=>by
    rw [hbs] at hx
    exact Xu hx hi
   repeat first|refine ZA ?_|refine BV (pa rfl rfl) ?_|refine BV (la rfl) ?_|refine BP ?_|refine BQ ?_
   refine J8 (fun t' h'=>h'=g5/\t'=[.ptr db 0,s1,s2', .str nm, .bool (pI nm),vn, .int .i64 K.ns.length, .int .i64 K.ns.length, .bool false,nv, .int .i64 names.length, .int .i64 j, .bool true,s13]) ?_ ?_
   ·have hmp:pI nm=(decide (b.toNat=116)||decide (b.toNat=119)||decide (nm=dP)):=by
     have e1:∀k:UInt8,(some b==some k)=decide (b.toNat=k.toNat):=fun k=>by rw [Bool.eq_iff_iff];simp [UInt8.toNat_inj]
     have e2:(nm==dP)=decide (nm=dP):=by rw [Bool.eq_iff_iff];simp
     unfold pI
     rw [e2,hbs]
     show ((some b==some 116)||(some b==some 119)||_)=_
     rw [e1,e1]
     rfl
    rw [hmp]
    by_cases c1:b.toNat=116
    ·repeat first|refine ZA ?_|refine BV (hidx rfl rfl) ?_|refine BP ?_|refine BQ ?_
     exact bK ⟨rfl,by simp [c1]⟩
    ·by_cases c2:b.toNat=119
     ·repeat first|refine ZA ?_|refine BV (hidx rfl rfl) ?_|refine BP ?_|refine BQ ?_
      exact bK ⟨rfl,by simp [c1,c2]⟩
     ·by_cases c3:nm=dP
      ·repeat first|refine ZA ?_|refine BV (hidx rfl rfl) ?_|refine BV (Ug rfl rfl c3) ?_|refine BP ?_|refine BQ ?_
       exact bK ⟨rfl,by simp [c1,c2,c3]⟩
      ·repeat first|refine ZA ?_|refine BV (hidx rfl rfl) ?_|refine BV (Uh rfl rfl c3) ?_|refine BP ?_|refine BQ ?_
       exact bK ⟨rfl,by simp [c1,c2,c3]⟩
   ·rintro t' h' ⟨rfl,rfl⟩
    cases hm:pI nm with
    |false=>
     repeat first|refine ZA ?_|refine BP ?_|refine BQ ?_
     refine aj (names.length - (j+1)) (by omega) ⟨_,_,_,_,_,j+1,by omega,rfl,K5, ?_,rfl⟩
     rw [hsn,List.filter_append,List.filter_cons,hm,List.filter_nil]
     simpa using o5
    |true=>
     repeat first|refine ZA ?_|refine BP ?_|refine BQ ?_
     refine ag rfl ((Uj hE T.acG T.acH (l:=own) ro5 (by omega)).mono fun r h6 ⟨e6,e7⟩=> ?_)
     subst e6 e7
     cases hc:own.contains nm with
     |true=>
      repeat first|refine ZA ?_|refine BP ?_|refine BQ ?_
      refine aj (names.length - (j+1)) (by omega) ⟨_,_,_,_,_,j+1,by omega,rfl,K5, ?_,rfl⟩
      rw [hsn,List.filter_append,List.filter_cons,hm,hc,List.filter_nil]
      simpa using o5
     |false=>
      repeat first|refine ZA ?_|refine BV (ak rfl) ?_|refine BV (au d5 rfl rfl) ?_|refine BP ?_|refine BQ ?_
      refine ag rfl ((nD hE T.rm o5 (by omega) nm).mono fun r h7 ⟨e7,o7,k7⟩=> ?_)
      repeat first|refine ZA ?_|refine BP ?_|refine BQ ?_
      refine aj (names.length - (j+1)) (by omega) ⟨_,_,_,_,_,j+1,by omega,rfl,K5.trans k7 (fun _ _ q=>q), ?_,rfl⟩
      rw [hsn,List.filter_append,List.filter_cons,hm,hc,List.filter_nil]
      rw [if_pos (by rfl),Af]
      exact o7
  ·obtain rfl:j=names.length:=by omega
   rw [List.take_length] at o5
   repeat first|refine ZA ?_|refine BP ?_|refine BQ ?_
   have kk:Keep (az gd) h1 g5:=(Kp.and k3).any.trans K5 (fun _ _ q=>q)
   refine ⟨?_,kk⟩
   unfold kV
   rw [Fq]
   exact D.disk kk o5
end
def rX:BF:=⟨95,[0,1,4,5,6,7,8,9,11,12,13,14,15,17,25,28,37,38,39,40,50,73,79,80,81,82],(.seq (.reg [mvS 2 (.mv (.const .bU)),mvS 3 (.mv (.const (.int .i64 0)))]) (.seq (.reg [ceS 19 0,clE 20 71 [eV 19],ceE 18 20,exE 21 0 18,exE 22 1 18,exE 23 2 18, .mk none (.slot 4) (.eff (.alloc [.ae,(.int .i64 0),(.int .i64 0)])), .mk none .none (.eff (.store 3 (sL 4) (eV 21))),csE 5 22,csE 6 23]) (.seq (.seq (.reg [ceS 24 6,mvS 14 (.bin .neq .no (eV 24) (.const (.int .i64 0)))]) (.cond (sL 14) (.seq (.reg [ceS 26 6,mvS 2 (.mv (.const .bU)),csE 3 26]) .ret) .skip)) (.seq (.seq (.reg [ceS 27 5,mvS 15 (.jd (eV 27))]) (.cond (sL 15) (.reg [mvE 29 (.bld [.ae,(.int .i64 0),(.int .i64 0)] [(2,1,(.const (.int .i64 1)))]), .mk none .none (.eff (.store 3 (sL 4) (eV 29)))]) .skip)) (.seq (.iC [(ceS 30 0,[]),(ceS 31 1,[]),(mvE 32 (.ldn 3 (sL 4)),[]),(clE 33 72 [],[0,1,2]),(mvE 34 (.bld [.bU,(.bool false), .ae,(.int .i64 0),(.int .i64 0), .ae, .bU, .bU] [(0,1,(eV 30)),(1,1,(eV 31)),(2,3,(eV 32)),(7,1,(eV 33))]),[]),(efE 35 (.box (eV 34)),[0,1,2,4]),(csE 7 35,[])]) (.seq (.seq (.reg [mvE 36 (.aG 0 (sL 4)),mvS 16 (.ld1 (eV 36)),mvS 17 (.ah (sL 16)),mvS 18 (.mv (.const (.int .i64 0)))]) (.block 0 (.loop (.seq (.reg [mvS 19 (.bin .lss .no (sL 18) (sL 17))]) (.seq (.cond (sL 19) .skip (.exit 0)) (.seq (.block 1 (.seq (.reg [mvE 41 (.aP 1 (sL 16) (sL 18)),ldE 42 41,csE 8 42]) (.seq (.reg [ceS 44 0,ceS 45 8,clE 46 73 [eV 44,eV 45],ceE 43 46,exE 47 0 43,exE 48 1 43,csE 9 47,csE 10 48]) (.seq (.seq (.reg [ceS 49 10,mvS 20 (.bin .neq .no (eV 49) (.const (.int .i64 0)))]) (.cond (sL 20) (.seq (.reg [ceS 51 10,mvS 2 (.mv (.const .bU)),csE 3 51]) .ret) .skip)) (.reg [ceS 52 7,ceS 53 7,nlE 54 53,faE 55 5 54,ldE 56 55,ceS 57 9,efE 58 (.aF 1 1 [.bU] [(0,1,(eV 57))]),efE 59 (.append 1 8 (eV 56) (eV 58)),nlE 60 52,faE 61 5 60, .mk none .none (.eff (.store 1 (eV 61) (eV 59)))]))))) (.reg [mvE 62 (.bin .add .no (sL 18) (.const (.int .i64 1))),csE 18 62]))))))) (.seq (.reg [ceS 64 0,mvE 65 (.aG 1 (sL 4)),ldE 66 65,clE 67 75 [eV 66],clE 68 74 [eV 64,eV 67],ceE 63 68,exE 69 0 63,exE 70 1 63,exE 71 2 63,csE 11 69,csE 12 70,csE 6 71]) (.seq (.seq (.reg [ceS 72 6,mvS 21 (.bin .neq .no (eV 72) (.const (.int .i64 0)))]) (.cond (sL 21) (.seq (.reg [ceS 74 6,mvS 2 (.mv (.const .bU)),csE 3 74]) .ret) .skip)) (.seq (.reg [ceS 75 7,ceS 76 11,nlE 77 75,faE 78 6 77, .mk none .none (.eff (.store 1 (eV 78) (eV 76)))]) (.seq (.seq (.reg [mvS 22 (.mv (sL 12)),mvS 23 (.ah (sL 22)),mvS 24 (.mv (.const (.int .i64 0)))]) (.block 2 (.loop (.seq (.reg [mvS 25 (.bin .lss .no (sL 24) (sL 23))]) (.seq (.cond (sL 25) .skip (.exit 2)) (.seq (.block 3 (.seq (.reg [mvE 83 (.aP 1 (sL 22) (sL 24)),ldE 84 83,csE 13 84]) (.reg [ceS 85 7,nlE 86 85,faE 87 7 86,ldE 88 87,ceS 89 13,clE 90 64 [eV 88,eV 89]]))) (.reg [mvE 91 (.bin .add .no (sL 24) (.const (.int .i64 1))),csE 24 91]))))))) (.seq (.reg [ceS 92 7,clE 93 76 [eV 92]]) (.seq (.reg [ceS 94 7,csE 2 94,mvS 3 (.mv (.const (.int .i64 0)))]) .ret)))))))))))),[.slot (sL 2), .slot (sL 3)]⟩
theorem Kq {X:Type} {e:En} {t:List AV} {h:Hp X} {z0 z1 z2 z3 z4 z5 z6 z7:AV} {x y z u:Od} {a b c0 c1 c2 d:AV} (hx:x.ev e t=a) (hy:y.ev e t=b) (hz:z.ev e t= .agg [c0,c1,c2]) (hu:u.ev e t=d) (ha:cellsOf a=some [a]) (hb:cellsOf b=some [b]) (hd:cellsOf d=some [d]):
  (Mv.bld [z0,z1,z2,z3,z4,z5,z6,z7] [(0,1,x),(1,1,y),(2,3,z),(7,1,u)]).ev e t h=some (.agg [a,b,c0,c1,c2,z5,z6,d]):=by
 simp only [Mv.ev,List.map,hx,hy,hz,hu,fillA,ha,hb,hd]
 rfl
theorem Xw {X:Type} {e:En} {t:List AV} {h:Hp X} {z0 z1 z2:AV} {x:Od} {a:AV} (hx:x.ev e t=a) (ha:cellsOf a=some [a]):
  (Mv.bld [z0,z1,z2] [(2,1,x)]).ev e t h=some (.agg [z0,z1,a]):=by
 simp only [Mv.ev,List.map,hx,fillA,ha]
 rfl
structure nH (h:Hp MD) (v:AV) (ls:List (List EM)) (lo:Nat):Prop where
 out:∃cells,OS h 1 v ls.length cells/\(∀k,blk v k->lo<=k)/\∀(i:Nat) l,ls[i]?=some l->∃gt,cells[i]?=some (.ptr gt 0)/\(lo<=gt/\¬blk v gt)/\iG h gt l (fun k=>lo<=k/\¬blk v k)
theorem iG.ltg {h:Hp MD} {g:Nat} {l:List EM} {F:Nat->Prop} (a:iG h g l F):g < h.n:=by obtain ⟨_,z,_⟩:=a.out;exact z.lt
theorem nH.nil {h:Hp MD} {lo:Nat}:nH h .ae [] lo:=⟨[],⟨rfl,rfl⟩,fun k q=>q.elim,fun i l q=>by simp at q⟩
theorem nH.keep {S:Nat->Prop} {h h':Hp MD} {v:AV} {ls:List (List EM)} {lo:Nat} (a:nH h v ls lo) (k:Keep S h h') (hs:∀j,lo<=j->j < h.n->¬S j):nH h' v ls lo:=by
 obtain ⟨cells,h1,h2,h3⟩:=a.out
 refine ⟨cells,h1.keep k (fun j hj=>hs j (h2 j hj) (h1.lt j hj)),h2,fun i l hi=> ?_⟩
 obtain ⟨gt,q1,q2,q3⟩:=h3 i l hi
 exact ⟨gt,q1,q2,(q3.lt.keep k (hs gt q2.1 q3.ltg) (fun j hj=>hs j hj.1.1 hj.2)).on fun _ q=>q.1⟩
theorem nH.up {h h':Hp MD} {v:AV} {ls:List (List EM)} {lo:Nat} (a:nH h v ls lo) (k:Keep NoB h h'):nH h' v ls lo:=a.keep k (fun _ _ _ q=>q)
theorem nH.lo {h:Hp MD} {v:AV} {ls:List (List EM)} {lo:Nat} (a:nH h v ls lo):∀k,blk v k->lo<=k:=by obtain ⟨_,_,z,_⟩:=a.out;exact z
theorem nH.lt {h:Hp MD} {v:AV} {ls:List (List EM)} {lo:Nat} (a:nH h v ls lo):∀k,blk v k->k < h.n:=by obtain ⟨_,z,_⟩:=a.out;exact z.lt
theorem nH.one {h:Hp MD} {v:AV} {ls:List (List EM)} {lo:Nat} (a:nH h v ls lo):cellsOf v=some [v]/\v.one=true:=by obtain ⟨_,z,_⟩:=a.out;exact z.one
theorem nH.tabs {h:Hp MD} {v:AV} {ls:List (List EM)} {lo:Nat} (a:nH h v ls lo):Tabs h v ls (fun k=>lo<=k/\k < h.n):=by
 obtain ⟨cells,h1,h2,h3⟩:=a.out
 refine ⟨cells,h1.rs,fun k q=>⟨h2 k q,h1.lt k q⟩,fun i l hi=> ?_⟩
 obtain ⟨gt,q1,q2,q3⟩:=h3 i l hi
 exact ⟨gt,q1,⟨q2.1,q3.ltg⟩,q3.lt.on fun _ q=>⟨q.1.1,q.2⟩⟩
theorem nH.next {h:Hp MD} {v:AV} {ls:List (List EM)} {lo gt:Nat} {l:List EM} (a:nH h v ls lo) (hg:lo<=gt/\¬blk v gt) (m:iG h gt l (fun k=>lo<=k/\¬blk v k)) (hlo:lo<=h.n):
  ∃cells,OS (h.push (.rw [.ptr gt 0])) 1 v ls.length cells/\∀v' h',OS h' 1 v' (ls.length+1) (cells++[.ptr gt 0])->Keep (blk v) (h.push (.rw [.ptr gt 0])) h'->(∀k,blk v' k->blk v k\/(h.push (.rw [.ptr gt 0])).n<=k)->nH h' v' (ls++[l]) lo/\Keep (blk v) h h':=by
 obtain ⟨cells,h1,h4,h3⟩:=a.out
 have kp:Keep NoB h (h.push (.rw [.ptr gt 0])):=Keep.push _ _ _
 have hll:=h1.len
 refine ⟨_,h1.up kp,fun v' h' a1 a2 a3=>⟨⟨cells++[.ptr gt 0], ?_, ?_, ?_⟩,kp.any.trans a2 (fun _ _ q=>q)⟩⟩
 ·rw [List.length_append]
  exact a1
 ·intro k hk
  rcases a3 k hk with hk|hk
  ·exact h4 k hk
  ·simp only [bJ] at hk;omega
 ·have nv:∀k,k < h.n->¬blk v k->¬blk v' k:=fun k z1 z2 z3=>by
   rcases a3 k z3 with z|z
   ·exact z2 z
   ·simp only [bJ] at z;omega
  have mv:∀{gt:Nat} {l:List EM},(lo<=gt/\¬blk v gt)->iG h gt l (fun k=>lo<=k/\¬blk v k)->(lo<=gt/\¬blk v' gt)/\iG h' gt l (fun k=>lo<=k/\¬blk v' k):=fun {gt l} hg q=>by
   refine ⟨⟨hg.1,nv gt q.ltg hg.2⟩, ?_⟩
   exact ((q.lt.up kp).keep a2 hg.2 (fun k hk=>hk.1.2)).on (fun k hk=>⟨hk.1.1,nv k hk.2 hk.1.2⟩)
  intro i x q2
  by_cases hi:i < ls.length
  ·rw [List.getElem?_append_left hi] at q2
   obtain ⟨d,h6,h7,h8⟩:=h3 i x q2
   obtain ⟨y1,y2⟩:=mv h7 h8
   exact ⟨d,by rw [List.getElem?_append_left (by omega)];exact h6,y1,y2⟩
  ·have h6:=(List.getElem?_eq_some_iff.1 q2).1
   rw [List.length_append,List.length_singleton] at h6
   have h7:i=ls.length:=by omega
   subst h7
   rw [List.getElem?_append_right (Nat.le_refl _),Nat.sub_self] at q2
   simp at q2
   subst q2
   obtain ⟨y1,y2⟩:=mv hg m
   refine ⟨gt, ?_,y1,y2⟩
   rw [List.getElem?_append_right (by omega),show ls.length - cells.length=0 by omega]
   rfl
theorem Nh:∀{ls:List (List EM)} {a:List EM},(∀e∈a,szE e)->(∀l∈ls,∀e∈l,szE e)->∀e∈ls.foldl dB a,szE e
 |[],_,h,_=>h
 |l::ls,a,h,hl=>Nh (ls:=ls) (fun e he=>by
   rcases lW he with q|⟨x,hx,rfl⟩
   ·exact h e q
   ·exact Fb (hl l (List.mem_cons_self ..) x hx)) fun x hx=>hl x (List.mem_cons_of_mem _ hx)
theorem IA:∀{ls:List (List EM)} {a:List EM},(ls.foldl dB a).length<=a.length+(ls.map List.length).sum
 |[],_=>Nat.le_refl _
 |l::ls,a=>by
  have h1:=IA (ls:=ls) (a:=dB a l)
  have h2:=vY (r:=l) (acc:=a)
  rw [List.foldl_cons,List.map_cons,List.sum_cons]
  omega
theorem IB (ls:List (List EM)) (j:Nat):((ls.take j).map List.length).sum<=(ls.map List.length).sum:=by
 conv=>rhs;rw [<-List.take_append_drop j ls]
 rw [List.map_append,List.sum_append]
 omega
structure KwP (E:Nat->Option (Ent MD)):Prop extends KwO E where
 abz:E 31=some (.bc rX)
section
variable {E:Nat->Option (Ent MD)}
set_option maxHeartbeats 16000000 in
theorem Uk (hE:∀f e,E f=some e->e.plain) (T:KwP E) {h:Hp MD} {gd:Nat} {x x1:MD} (hd:Ob h gd x) (each:Bool) {K:KS} {ls:List (List EM)} (oo:TT x K ls x1):
  WF (lim E) 31 [.ptr gd 0, .bool each] h fun r h'=>∃db W,r= .tup [.ptr db 0, .int .i64 0]/\DbH h' db gd each K W (fun k=>h.n<=k)/\Keep (az gd) h h'/\(∀k,W k->k=gd\/h.n<=k)/\h.n<=db:=by
 have hmx:(maxLen:Nat)=9223372036854775807:=rfl
 have hfl:=oo.fl
 refine aC hE T.abz rfl ?_
 simp only [rX,mvE,mvS,clE,efE,ceS,ceE,csE,faE,nlE,ldE,lnE,exE,eV,sL,kI,List.map,getS]
 repeat first|refine ZA ?_|refine BP ?_|refine BQ ?_
 refine ag rfl ((We hE T.m hd (by omega) oo.lb).mono fun r h1 ⟨k1,p1⟩=> ?_)
 have key:∃tv w0 n0 th,r= .tup [LsV tv w0 n0, .bool th, .int .i64 0]/\RS h1 1 tv K.ns.length (K.ns.map niv)/\(∀k,blk tv k->h.n<=k)/\w0=(K.w:Int)/\(th=true->n0=(K.nx:Int))/\(th=false->tv= .ae/\K.w=0/\K.nx=1):=by
  rcases oo.list with q|⟨q1,q2,q3,q4⟩
  ·rw [q] at p1
   obtain ⟨tv,e1,o1,l1⟩:=p1
   refine ⟨tv,_,_,true,e1, ?_,l1,rfl,(fun _=>rfl),(fun q=>by cases q)⟩
   have:=o1.rs
   rw [Fa,show (ints K.ns).length=K.ns.length by simp [ints]] at this
   exact this
  ·rw [q1] at p1
   refine ⟨.ae,0,0,false,p1, ?_,(fun k q=>q.elim),(by rw [q3];rfl),(fun q=>by cases q),(fun _=>⟨rfl,q3,q4⟩)⟩
   rw [q2]
   exact ⟨rfl,rfl⟩
 obtain ⟨tv,w0,n0,th,e1,r1,l1,hw0,hth,htf⟩:=key
 subst e1
 clear p1
 have n1:=k1.n
 have hall:allOne [tv, .int .i64 w0, .int .i64 n0]=true:=aX r1.one.2 rfl rfl
 repeat first|refine ZA ?_|refine BV (di rfl) ?_|refine BW (aV aH rfl rfl hall rfl (Nat.le_refl _)) ?_|refine BP ?_|refine BQ ?_
 refine uK (fun t' hh=>Bx hh h1.n [tv,niv K.w,niv K.nx]/\Keep NoB h1 hh/\hh.n=h1.n+1/\t'=[.ptr gd 0, .bool each, .bU, .int .i64 0, .ptr h1.n 0, .bool th, .int .i64 0, .bot, .bot, .bot, .bot, .bot, .bot, .bot, .bool false, .bool (!th), .bot, .bot, .bot, .bot, .bot, .bot, .bot, .bot, .bot, .bot]) ?_ ?_
 ·have bx:Bx ((h1.push (.rw [.ae, .int .i64 0, .int .i64 0])).put h1.n (.rw (spl 0 [tv, .int .i64 w0, .int .i64 n0] [.ae, .int .i64 0, .int .i64 0]))) h1.n [tv, .int .i64 w0, .int .i64 n0]:=Bx.put aH
  have kx:Keep NoB h1 ((h1.push (.rw [.ae, .int .i64 0, .int .i64 0])).put h1.n (.rw (spl 0 [tv, .int .i64 w0, .int .i64 n0] [.ae, .int .i64 0, .int .i64 0]))):=(Keep.push NoB h1 _).own (Keep.put (S:=az h1.n) _ _ _ rfl) (fun k q=>by have q:k=h1.n:=q;omega)
  cases th with
  |true=>
   refine AG rfl rfl ?_
   repeat first|refine ZA ?_|refine BP ?_|refine BQ ?_
   refine bK ⟨?_,kx,rfl,rfl⟩
   rw [hw0,hth rfl] at bx
   rw [hw0,hth rfl]
   exact bx
  |false=>
   obtain ⟨q1,q2,q3⟩:=htf rfl
   subst q1
   refine AF rfl rfl ?_
   repeat first|refine ZA ?_|refine BV (Xw rfl rfl) ?_|refine BW (aV bx rfl rfl rfl rfl (Nat.le_refl _)) ?_|refine BP ?_|refine BQ ?_
   refine bK ⟨?_,kx.own (Keep.put (S:=az h1.n) _ _ _ rfl) (fun k q=>by have q:k=h1.n:=q;omega),rfl,rfl⟩
   rw [q2,q3]
   exact Bx.put bx
 rintro t' hh ⟨b2,k2,n2,rfl⟩
 clear hall hw0 hth htf
 repeat first|refine ZI ?_|refine CB (dh b2 rfl (Nat.le_refl _)) ?_|refine BV (dh b2 rfl (Nat.le_refl _)) ?_|refine BP ?_|refine BQ ?_|refine CC ?_
 refine bF rfl ((MI hE T.p.toKmT).mono fun r h3 ⟨e3,m3,k3⟩=> ?_)
 subst e3
 have b3:=b2.up k3
 have n3:=k3.n
 have lgm:=m3.lt
 refine ⟨(by (try simp only [List.nil_append,List.cons_append]);repeat first|exact aW|(apply iR;(focus exact rfl);first|exact jq|(refine iT ?_;first|exact (dh b3 rfl (Nat.le_refl _))|exact rfl))), ?_⟩
 have b3p:=b3.up (Keep.push NoB h3 (.rw [.ptr gd 0, .bool each,tv,niv K.w,niv K.nx, .ae, .bU, .ptr hh.n 0]))
 have Yn:allOne [.ptr gd 0, .bool each,tv,niv K.w,niv K.nx, .ae, .bU, .ptr hh.n 0]=true:=by
  have ho:=r1.one.2
  unfold allOne
  cases tv<;>first|(cases ho;done)|rfl
 repeat first|refine ZI ?_|refine CB (Kq rfl rfl rfl rfl rfl rfl rfl) ?_|refine BV (Kq rfl rfl rfl rfl rfl rfl rfl) ?_|refine BP ?_|refine BQ ?_|refine CC ?_
 refine EE (cs:=[.ptr gd 0, .bool each,tv,niv K.w,niv K.nx, .ae, .bU, .ptr hh.n 0]) (iD rfl Yn) (by (try simp only [List.nil_append,List.cons_append]);repeat first|exact aW|(apply iR;(focus exact rfl);first|exact jq|(refine iT ?_;first|exact (dh b3p rfl (Nat.le_refl _))|exact (Kq rfl rfl rfl rfl rfl rfl rfl)|exact rfl))) ?_
 obtain ⟨h4,hh4⟩:∃h4:Hp MD,h4=h3.push (.rw [.ptr gd 0, .bool each,tv,niv K.w,niv K.nx, .ae, .bU, .ptr hh.n 0]):=⟨_,rfl⟩
 have k4:Keep NoB h3 h4:=by rw [hh4];exact Keep.push _ _ _
 have d4:Bx h4 h3.n [.ptr gd 0, .bool each,tv,niv K.w,niv K.nx, .ae, .bU, .ptr hh.n 0]:=by rw [hh4];exact aH
 have n4:h4.n=h3.n+1:=by rw [hh4];rfl
 refine mY (h':=h4) (by rw [hh4];first|done|rfl) ?_
 clear hh4
 have K4:Keep NoB h h4:=((k1.and k2).and k3).and k4
 have b4:=b3.up k4
 have r4':=r1
 have m3':pq h3 hh.n .ae [] (fun _=>False):=⟨m3,[],rfl,fun i q e z=>by simp at z,fun q z=>by simp at z, .inl ⟨rfl,rfl⟩⟩
 have acI:=b3
 have r4:=((r1.up k2).up k3).up k4
 have dd4:=hd.up K4
 have m4:pq h4 hh.n .ae [] (fun _=>False):=⟨m3.up k4,[],rfl,fun i q e z=>by simp at z,fun q z=>by simp at z, .inl ⟨rfl,rfl⟩⟩
 have ltv:∀k,blk tv k->k < h1.n:=fun k q=>r1.lt k q
 clear r1 b2 b3 m3 Yn
 repeat first|refine ZI ?_|refine BP ?_|refine BQ ?_|refine CC ?_
 repeat first|refine ZA ?_|refine BV (au b4 rfl rfl) ?_|refine BV (r4.ah (by rfl)) ?_|refine BP ?_|refine BQ ?_
 have n1':h1.n < hh.n:=by omega
 refine aQ (fun q t g=>∃(vt s8 s9 s10 s19 s20:AV) (j:Nat),j<=K.ns.length/\q=K.ns.length - j/\Keep NoB h3 g/\h4.n<=g.n/\nH g vt (K.tabs.take j) h4.n/\Bx g h3.n [.ptr gd 0, .bool each,tv,niv K.w,niv K.nx,vt, .bU, .ptr hh.n 0]/\t=[.ptr gd 0, .bool each, .bU, .int .i64 0, .ptr h1.n 0, .bool th, .int .i64 0, .ptr h3.n 0,s8,s9,s10, .bot, .bot, .bot, .bool false, .bool (!th),tv, .int .i64 K.ns.length, .int .i64 j,s19,s20, .bot, .bot, .bot, .bot, .bot]) ?_ K.ns.length _ _ ⟨.ae,_,_,_,_,_,0,by omega,by omega,k4,Nat.le_refl _,nH.nil,d4,rfl⟩
 rintro q t g ⟨vt,s8,s9,s10,s19,s20,j,hj,hq,Kp,gn,TO,dg,rfl⟩
 have hlen:=oo.len
 have hmost:=oo.most
 have k34:=(k1.and k2).and k3
 have KK:=k34.and Kp
 have rg:=((((r4'.up k2).up k3)).up Kp)
 have og:=(hd.up k34).up Kp
 by_cases hlt:j < K.ns.length
 ·obtain ⟨ga,oa,pa,la⟩:=rg.at2 (i:=j) (by omega)
  have la:∀{e:En} {t:List AV} {x:Od},x.ev e t= .ptr ga oa->(Mv.ld1 x).ev e t g=some (niv K.ns[j]):=fun hx=>(la (S:=NoB) (Keep.refl _ _) (fun _ _ q=>q) hx).trans (by rw [List.getElem?_map,List.getElem?_eq_getElem hlt];rfl)
  have hlt2:j < K.tabs.length:=by omega
  obtain ⟨f,hf1,hf2⟩:=oo.files j _ _ (List.getElem?_eq_getElem hlt) (List.getElem?_eq_getElem hlt2)
  repeat first|refine ZA ?_|refine BV (pa rfl rfl) ?_|refine BV (la rfl) ?_|refine BP ?_|refine BQ ?_
  refine ag rfl ((zU hE T.toKwT og (by omega) (oo.nb _ (List.getElem_mem _)) hf1 hf2 (oo.tab _ (List.getElem_mem _))).mono fun r h5 ⟨k5,gt,e5,m5,l5⟩=> ?_)
  subst e5
  have n5:=k5.n
  have TO5:=TO.up k5
  have d5:=dg.up k5
  obtain ⟨cells,c1,c2⟩:=TO5.next (gt:=gt) (l:=K.tabs[j]) ⟨by omega,fun q=>by have:=TO.lt _ q;omega⟩ (m5.on fun k q=>⟨by omega,fun q2=>by have:=TO.lt _ q2;omega⟩) (by omega)
  rw [List.length_take,Nat.min_eq_left (by omega)] at c1 c2
  repeat first|refine ZA ?_|refine BV (ak rfl) ?_|refine BV (au d5 rfl rfl) ?_|refine BW (dO (c:= .ptr gt 0) rfl rfl rfl) ?_|refine BP ?_|refine BQ ?_
  refine aA rfl rfl c1 Nat.zero_lt_one (bH (n:=1) rfl) (by omega) (by omega) fun v' h6 a1 a2 a3=> ?_
  obtain ⟨TO6,k6⟩:=c2 v' h6 a1 a2 a3
  have lo5:=TO5.lo
  have d6:=d5.keep k6 (fun q=>by have:=lo5 _ q;omega)
  have n6:=k6.n
  have zX:∀{e:En} {t:List AV} {x y:Od},x.ev e t= .ptr h3.n 5->y.ev e t=v'->(Ef.store 1 x y).ev e t h6=some (.bot,h6.put h3.n (.rw [.ptr gd 0, .bool each,tv,niv K.w,niv K.nx,v', .bU, .ptr hh.n 0])):=fun hx hy=>fQ d6 hx hy TO6.one (by simp)
  repeat first|refine ZA ?_|refine BV (ak rfl) ?_|refine BW (zX rfl rfl) ?_|refine BP ?_|refine BQ ?_
  have k7:Keep (az h3.n) h6 (h6.put h3.n (.rw [.ptr gd 0, .bool each,tv,niv K.w,niv K.nx,v', .bU, .ptr hh.n 0])):=Keep.put _ _ _ rfl
  refine aj (K.ns.length - (j+1)) (by omega) ⟨v',_,_,_,_,_,j+1,by omega,rfl, ?_, ?_, ?_,d6.put,rfl⟩
  ·exact (((Kp.and k5).trans k6 (fun k z1 z2=>by have:=lo5 k z2;omega))).own k7 (fun k z=>by have z:k=h3.n:=z;omega)
  ·have:(h6.put h3.n (.rw [.ptr gd 0, .bool each,tv,niv K.w,niv K.nx,v', .bU, .ptr hh.n 0])).n=h6.n:=rfl
   omega
  ·rw [take_snoc (List.getElem?_eq_getElem hlt2)]
   exact TO6.keep k7 (fun k z1 _ z2=>by have z2:k=h3.n:=z2;omega)
 ·obtain rfl:j=K.ns.length:=by omega
  rw [List.take_of_length_le (by omega)] at TO
  have bg:=(acI).up Kp
  repeat first|refine ZA ?_|refine BV (au bg rfl rfl) ?_|refine BP ?_|refine BQ ?_
  have hwb:=oo.wb
  have ldg:=hd.lt
  refine ag rfl ((LQ hE T.wn T.dg hwb).mono fun r h5 ⟨e4,e5⟩=> ?_)
  subst e4 e5
  rw [show 119::uI K.w=wnm K.w from rfl]
  have hwl:1<=(wnm K.w).length/\(wnm K.w).length<=32:=by have:=oK K.w;unfold wnm;simp;omega
  refine ag rfl ((L6 hE T.w og (by omega) hwl.1 hwl.2 oo.JC).mono fun r h6 op=> ?_)
  rw [oo.log] at op
  obtain ⟨k6,o6,gl,mv,e6,l6,bl6,bt6⟩:Keep (az gd) h5 h6/\Ob h6 gd x1/\∃g m,r= .tup [.ptr g 0,m, .int .i64 0]/\h5.n<=g/\Bx h6 g [.ptr gd 0, .str (wnm K.w), .int .i64 ls.length]/\nG h6 m ls (fun k=>h5.n<=k/\k < g):=op
  subst e6
  have n6:=k6.n
  have n1:=k1.n
  have lgl:=bl6.lt
  have d6:=dg.keep k6 (fun q=>by have q:h3.n=gd:=q;omega)
  have TO6:=TO.keep k6 (fun k z1 _ z2=>by have z2:k=gd:=z2;omega)
  have r6:=rg.keep k6 (fun k z1 z2=>by have:=l1 k z1;have z2:k=gd:=z2;omega)
  have m6:=((m3'.up Kp).keep k6 (fun q=>by have q:hh.n=gd:=q;omega) (fun _ q=>q.elim) (fun _ q=>q.elim))
  have zX:∀{e:En} {t:List AV} {x y:Od},x.ev e t= .ptr h3.n 6->y.ev e t= .ptr gl 0->(Ef.store 1 x y).ev e t h6=some (.bot,h6.put h3.n (.rw [.ptr gd 0, .bool each,tv,niv K.w,niv K.nx,vt, .ptr gl 0, .ptr hh.n 0])):=fun hx hy=>fQ d6 hx hy ⟨rfl,rfl⟩ (by simp)
  repeat first|refine ZA ?_|refine BV (ak rfl) ?_|refine BW (zX rfl rfl) ?_|refine BP ?_|refine BQ ?_
  obtain ⟨h7,hh7⟩:∃h7:Hp MD,h7=h6.put h3.n (.rw [.ptr gd 0, .bool each,tv,niv K.w,niv K.nx,vt, .ptr gl 0, .ptr hh.n 0]):=⟨_,rfl⟩
  have k7:Keep (az h3.n) h6 h7:=by rw [hh7];exact Keep.put _ _ _ rfl
  have d7:Bx h7 h3.n [.ptr gd 0, .bool each,tv,niv K.w,niv K.nx,vt, .ptr gl 0, .ptr hh.n 0]:=by rw [hh7];exact d6.put
  have n7:h7.n=h6.n:=by rw [hh7];rfl
  refine aJ (h':=h7) (by rw [hh7];first|done|rfl) ?_
  clear hh7
  have hgn:=Kp.n
  have K7:Keep (az gd) h h7:=((KK.any).trans k6 (fun _ _ q=>q)).on k7 (fun k z=> .inl (by have z:k=h3.n:=z;omega))
  have o7:=o6.keep k7 (fun q=>by have q:gd=h3.n:=q;omega)
  have bl7:=bl6.keep k7 (fun q=>by have q:gl=h3.n:=q;omega)
  have bt7:=bt6.keep k7 (fun k z q=>by have q:k=h3.n:=q;omega)
  have r7:=r6.keep k7 (fun k z1 z2=>by have:=ltv k z1;have z2:k=h3.n:=z2;omega)
  have TO7:=TO6.keep k7 (fun k z1 _ z2=>by have z2:k=h3.n:=z2;omega)
  have m7:=m6.keep k7 (fun q=>by have q:hh.n=h3.n:=q;omega) (fun _ q=>q.elim) (fun _ q=>q.elim)
  have btb:=bt7
  obtain ⟨bc,bcr,bcb,bci⟩:=bt7.out
  have hsum:=oo.sum
  have hll:=oo.ll
  repeat first|refine ZA ?_|refine BV (bcr.ah (by rfl)) ?_|refine BP ?_|refine BQ ?_
  have T7:=((TO.tabs.keep k6 (fun k z1 z2=>by have z2:k=gd:=z2;omega)).keep k7 (fun k z1 z2=>by have z2:k=h3.n:=z2;omega))
  have m0:pq h7 hh.n .ae [] (fun k=>h7.n<=k):=⟨m7.bx,[],rfl,fun i q e z=>by simp at z,fun q z=>by simp at z, .inl ⟨rfl,rfl⟩⟩
  refine aQ (fun q t g2=>∃(s13 s25 vm:AV) (j:Nat),j<=ls.length/\q=ls.length - j/\Keep (az hh.n) h7 g2/\pq g2 hh.n vm ((ls.take j).foldl dB []) (fun k=>h7.n<=k)/\(∀k,blk vm k->h7.n<=k)/\t=[.ptr gd 0, .bool each, .bU, .int .i64 0, .ptr h1.n 0, .bool th, .int .i64 0, .ptr h3.n 0,s8,s9,s10, .ptr gl 0,mv,s13, .bool false, .bool (!th),tv, .int .i64 K.ns.length, .int .i64 K.ns.length, .bool false,s20, .bool false,mv, .int .i64 ls.length, .int .i64 j,s25]) ?_ ls.length _ _ ⟨_,_, .ae,0,by omega,by omega,Keep.refl _ _,m0,fun k q=>q.elim,rfl⟩
  rintro q t g2 ⟨s13,s25,vm,j,hj,hq,K2,mo,mlo,rfl⟩
  have g2n:=K2.n
  have d2:=d7.keep K2 (fun q=>by have q:h3.n=hh.n:=q;omega)
  by_cases hlt:j < ls.length
  ·obtain ⟨c,q1,q2⟩:=bci j _ (List.getElem?_eq_getElem hlt)
   have hlm:ls[j]∈ls:=List.getElem_mem _
   obtain ⟨ga,oa,pa,la⟩:=(bcr.keep K2 (fun k z1 z2=>by have:=bcb k z1;have z2:k=hh.n:=z2;omega)).at2 hlt
   have la:∀{e:En} {t:List AV} {x:Od},x.ev e t= .ptr ga oa->(Mv.ld1 x).ev e t g2=some c:=fun hx=>(la (S:=NoB) (Keep.refl _ _) (fun _ _ q=>q) hx).trans q1
   have en:=q2.keep K2 (fun k z1 z2=>by have z2:k=hh.n:=z2;omega)
   have hs1:=IB ls j
   have hs2:=IB ls (j+1)
   rw [take_snoc (List.getElem?_eq_getElem hlt),List.map_append,List.sum_append] at hs2
   simp only [List.map_cons,List.map_nil,List.sum_cons,List.sum_nil] at hs2
   have hfl:=IA (ls:=ls.take j) (a:=[])
   simp only [List.length_nil] at hfl
   repeat first|refine ZA ?_|refine BV (pa rfl rfl) ?_|refine BV (la rfl) ?_|refine BV (ak rfl) ?_|refine BV (au d2 rfl rfl) ?_|refine BP ?_|refine BQ ?_
   refine ag rfl ((MO hE T.p mo ⟨Aa .nil,by omega,Nh (fun _ h=>by cases h) fun l hl=>oo.sz l (List.mem_of_mem_take hl)⟩ en (fun k z=>⟨by omega,fun z2=>by have:=mlo k z2;omega⟩) (oo.sz _ hlm) (by omega)).mono fun r h8 ⟨v',m8,k8,b8⟩=> ?_)
   repeat first|refine ZA ?_|refine BP ?_|refine BQ ?_
   refine aj (ls.length - (j+1)) (by omega) ⟨_,_,v',j+1,by omega,rfl,K2.trans k8 (fun k z1 z2=> ?_), ?_,fun k z=> ?_,rfl⟩
   ·rcases z2 with z2|z2
    ·exact z2
    ·have:=mlo k z2;omega
   ·rw [take_snoc (List.getElem?_eq_getElem hlt),List.foldl_append]
    obtain ⟨a1,a2,a3,a4,a5,a6⟩:=m8
    exact ⟨a1,a2,a3,a4,fun q hq k hk=>⟨(a5 q hq k hk).1.elim id (fun z=>by omega),(a5 q hq k hk).2⟩,a6⟩
   ·rcases b8 k z with z|z
    ·exact mlo k z
    ·omega
  ·obtain rfl:j=ls.length:=by omega
   rw [List.take_length] at mo
   rw [<-oo.held] at mo
   have D:DbR g2 h3.n gd gl hh.n vm vt tv (fun k=>h7.n<=k) (fun k=>blk tv k\/(h4.n<=k/\k < h5.n)) each {K with x:=x1}:=by
    refine ⟨d2,o7.keep K2 (fun q=>by have q:gd=hh.n:=q;omega), ?_,mo,r7.keep K2 (fun k z1 z2=>by have:=ltv k z1;have z2:k=hh.n:=z2;omega),(T7.keep K2 (fun k z1 z2=>by have z2:k=hh.n:=z2;omega)).on (fun k z=> .inr z),fun k z=> .inl z,fun k z=> ?_,fun k z=>⟨by omega,by omega,by omega⟩,⟨by omega,by omega,by omega,fun z=>by have:=mlo _ z;omega,by omega,by omega,fun z=>by have:=mlo _ z;omega,by omega,fun z=>by have:=mlo _ z;omega⟩⟩
    ·show Bx g2 gl [.ptr gd 0, .str K.nm,niv K.n]
     rw [oo.nm,oo.n]
     exact bl7.keep K2 (fun q=>by have q:gl=hh.n:=q;omega)
    ·have:h.n<=k/\k < h5.n/\k≠h3.n/\k≠hh.n:=by
      rcases z with z|z
      ·have:=l1 k z;have:=ltv k z;omega
      ·omega
     exact ⟨by omega,by omega,by omega,by omega,by omega,fun z=>by have:=mlo k z;omega⟩
   repeat first|refine ZA ?_|refine BP ?_|refine BQ ?_
   refine ag rfl ((Xv hE T.toKwO D (by show x1.fs.length<=_;exact oo.fl1) (by show K.ns.length<=_;omega) oo.nb oo.names).mono fun r h9 ⟨D9,k9⟩=> ?_)
   repeat first|refine ZA ?_|refine BP ?_|refine BQ ?_
   have e:({K with x:=kV x1 (K.nm::K.ns.map tnm)}:KS)=K:=by
    have q:=oo.x
    rw [<-oo.nm] at q
    rw [<-q]
   have D9:DbR h9 h3.n gd gl hh.n vm vt tv _ _ each {K with x:=kV x1 (K.nm::K.ns.map tnm)}:=D9
   rw [e] at D9
   refine ⟨h3.n,DbW h3.n gd gl hh.n vm,rfl,⟨gl,hh.n,vm,vt,tv,_,_,D9,fun k=>Iff.rfl,fun k z=> ?_,fun k z=> ?_⟩, ?_,fun k z=> ?_,by omega⟩
   ·rcases z with z|z
    ·exact l1 k z
    ·show h.n<=k
     omega
   ·show h.n<=k
    omega
   ·exact (K7.trans K2 (fun k z1 z2=>by have z2:k=hh.n:=z2;omega)).trans k9 (fun _ _ q=>q)
   ·rcases z with z|z|z|z|z
    ·exact .inr (by omega)
    ·exact .inl z
    ·exact .inr (by omega)
    ·exact .inr (by omega)
    ·exact .inr (by have:=mlo k z;omega)
end
theorem Ah {l:List EM} (h:dI l):dI (aY l):=h.filter _
theorem rY:∀{l:List EM} (s:Bs),dI l->aO EM.key (aY l) s=match aO EM.key l s with|some e=>if e.gone then none else some e|none=>none
 |[],_,_=>rfl
 |x::l,s,h=>by
  have ih:=rY s (ay.tl h)
  unfold aY at*
  rw [List.filter_cons,dw]
  by_cases e:x.key=s
  ·rw [if_pos e]
   cases hg:x.gone with
   |false=>rw [if_pos (by simp),dw,if_pos e];simp [hg]
   |true=>
    rw [if_neg (by simp)]
    simp only [hg,if_true]
    refine get_none.2 fun y hy q=> ?_
    have:=ay.hd h y (List.mem_filter.1 hy).1
    rw [q,e,dZ] at this
    cases this
  ·rw [if_neg e]
   cases hg:x.gone with
   |false=>rw [if_pos (by simp),dw,if_neg e];exact ih
   |true=>rw [if_neg (by simp)];exact ih
theorem OV (l:List EM):aY (aY l)=aY l:=by unfold aY;rw [List.filter_filter];simp
theorem Ul {a b:List EM} (ha:dI a) (hb:dI b) (h:aY a=aY b) (e:EM):aY (dC EM.key a e)=aY (dC EM.key b e):=by
 refine ay.ext (Ah (ha.put _)) (Ah (hb.put _)) fun s=> ?_
 rw [rY s (ha.put _),rY s (hb.put _),ha.get_put,hb.get_put]
 by_cases q:s=e.key
 ·rw [if_pos q,if_pos q]
 ·rw [if_neg q,if_neg q,<-rY s ha,<-rY s hb,h]
theorem Dt:∀{l a b:List EM},dI a->dI b->aY a=aY b->aY (dB a l)=aY (dB b l)
 |[],_,_,_,_,h=>h
 |e::l,_,_,ha,hb,h=>Dt (l:=l) (ha.put _) (hb.put _) (Ul ha hb h e.own)
theorem Um {a:List EM} (ha:dI a) {b:List EM} (hb:dI b) (e:EM):dB a (dC EM.key b e.own)=dC EM.key (dB a b) e.own:=by
 refine ay.ext (jk ha) ((jk ha).put _) fun s=> ?_
 rw [lX s ha (hb.put _),hb.get_put,(jk ha).get_put,lX s ha hb]
 by_cases q:s=e.own.key
 ·rw [if_pos q,if_pos q]
  simp only
  rw [Wx]
 ·rw [if_neg q,if_neg q]
theorem Du:∀{l:List EM} {a:List EM},dI a->∀{b:List EM},dI b->dB a (dB b l)=dB (dB a b) l
 |[],_,_,_,_=>rfl
 |e::l,a,ha,b,hb=>by
  rw [tu,tu,Du (l:=l) ha (hb.put _),Um ha hb]
def kT (K:KS):List EM:=aY (joinL (K.held::K.tabs))
section
variable {K K':KS} {ls:List (List EM)} {c s:Nat}
theorem Iy (hr:dI K.held) (l:List EM) (h1:K'.held=dB K.held l) (h2:K'.tabs=K.tabs):kT K'=aY (dB (kT K) l):=by
 unfold kT
 rw [h1,h2]
 show aY (dB (joinL K.tabs) (dB K.held l))=_
 rw [Du (dL _) hr]
 exact Dt (jk (dL _)) (Ah (dL _)) (OV _).symm
theorem Ag (h1:K'.held=[]) (h2:K'.tabs=(if K.held=[] then K.tabs else K.held::K.tabs)):kT K'=kT K:=by
 unfold kT
 rw [h1,h2]
 by_cases h:K.held=[]
 ·rw [if_pos h,h]
 ·rw [if_neg h];rfl
end
theorem Un (a b:List UInt8) (l:List EM):aY (jl a b l)=jl a b (aY l):=by
 unfold aY jl
 rw [List.filter_filter,List.filter_filter]
 congr 1
 funext e
 exact Bool.and_comm _ _
theorem Dv:∀{r acc:List EM} {x:EM},x∈dB acc r->(x∈acc/\∀y∈r,y.key≠x.key)\/∃e∈r,x=e.own
 |[],_,_,h=> .inl ⟨h,fun _ h=>by cases h⟩
 |e::r,acc,x,h=>by
  rcases Dv (r:=r) h with ⟨h,h0⟩|⟨y,h1,h2⟩
  ·rcases iM.1 h with rfl|⟨h,h3⟩
   ·exact .inr ⟨e,List.mem_cons_self ..,rfl⟩
   ·refine .inl ⟨h,fun y hy=> ?_⟩
    rcases List.mem_cons.1 hy with rfl|hy
    ·exact fun q=>h3 q.symm
    ·exact h0 y hy
  ·exact .inr ⟨y,List.mem_cons_of_mem _ h1,h2⟩
def qE (l:List EM):List EM:=l.map fun e=>⟨e.key,[],true⟩
theorem Uc {a x:List EM} (h:∀e∈a,∃y∈x,y.key=e.key):aY (dB a (qE x))=[]:=by
 refine List.filter_eq_nil_iff.2 fun e he=> ?_
 rcases Dv he with ⟨h1,h2⟩|⟨y,h1,h2⟩
 ·obtain ⟨y,hy,q⟩:=h e h1
  exact absurd q (h2 ⟨y.key,[],true⟩ (List.mem_map.2 ⟨y,hy,rfl⟩))
 ·obtain ⟨z,_,rfl⟩:=List.mem_map.1 h1
  rw [h2]
  show¬(!true)=true
  decide
structure DbG (h:Hp MD) (db gd:Nat) (each:Bool) (K:KS) (W F:Nat->Prop) (c s:Nat):Prop where
 d:DbH h db gd each K W F
 g:∃ls,dm K ls c s/\jy K
structure J6 (h h':Hp MD) (db gd:Nat) (each:Bool) (K':KS) (W F:Nat->Prop) (c s:Nat):Prop where
 out:∃W',DbG h' db gd each K' W' (fun k=>F k\/h.n<=k) c s/\Keep W h h'/\∀k,W' k->W k\/h.n<=k
theorem DbG.lt {h:Hp MD} {db gd:Nat} {each:Bool} {K:KS} {W F:Nat->Prop} {c s:Nat} (a:DbG h db gd each K W F c s):∀k,W k->k < h.n:=a.d.lt
theorem DbG.up {h h':Hp MD} {db gd:Nat} {each:Bool} {K:KS} {W F:Nat->Prop} {c s:Nat} (a:DbG h db gd each K W F c s) (k:Keep NoB h h'):DbG h' db gd each K W F c s:=⟨a.d.up k,a.g⟩
theorem DbG.keep {S:Nat->Prop} {h h':Hp MD} {db gd:Nat} {each:Bool} {K:KS} {W F:Nat->Prop} {c s:Nat} (a:DbG h db gd each K W F c s) (k:Keep S h h') (h1:∀k,W k->¬S k) (h2:∀k,F k->k < h.n->¬S k):DbG h' db gd each K W F c s:=⟨a.d.keep k h1 h2,a.g⟩
theorem DbG.on {h:Hp MD} {db gd:Nat} {each:Bool} {K:KS} {W F G:Nat->Prop} {c s:Nat} (a:DbG h db gd each K W F c s) (hs:∀k,F k->G k):DbG h db gd each K W G c s:=⟨a.d.on hs,a.g⟩
theorem DbG.gd {h:Hp MD} {db gd:Nat} {each:Bool} {K:KS} {W F:Nat->Prop} {c s:Nat} (a:DbG h db gd each K W F c s):W gd/\W db/\Ob h gd K.x:=by
 obtain ⟨gl,gm,vm,vt,vn,Fm,R,r,hw,_⟩:=a.d.out
 exact ⟨(hw _).2 (.inr (.inl rfl)),(hw _).2 (.inl rfl),r.dk⟩
section
variable {E:Nat->Option (Ent MD)} {h:Hp MD} {db gd:Nat} {each:Bool} {K:KS} {W F:Nat->Prop} {c s:Nat}
theorem Ua (hE:∀f e,E f=some e->e.plain) (T:KwP E) (hd:Ob h gd (MD.new 16777216)) (each:Bool):
  WF (lim E) 31 [.ptr gd 0, .bool each] h fun r h'=>∃db K W,r= .tup [.ptr db 0, .int .i64 0]/\DbG h' db gd each K W (fun k=>h.n<=k) 0 1/\K.held=[]/\K.tabs=[]/\Keep (az gd) h h'/\(∀k,W k->k=gd\/h.n<=k)/\h.n<=db:=by
 obtain ⟨K,x1,oo,g,h1,h2,cl,_⟩:=TY
 refine (Uk hE T hd each oo).mono fun r h' ⟨db,W,e1,d,k,w,l⟩=> ?_
 exact ⟨db,K,W,e1,⟨d,[],g,cl⟩,h1,h2,k,w,l⟩
theorem Ub (hE:∀f e,E f=some e->e.plain) (T:KwP E) (G:DbG h db gd each K W F c s) {v:AV} {l:List EM} {B:Nat->Prop} (en:aN h v l B) (hB:∀k,B k->¬W k) (h0:l≠[]) (hl:l.length<=20) (sm:bP l) (hc:c+l.length<=1000) (hs:s+2<=100):
  WF (lim E) 22 [.ptr db 0,v] h fun r h'=>r= .int .i64 0/\∃K',J6 h h' db gd each K' W F (c+l.length) (s+2)/\K'.held=dB K.held l/\K'.tabs=K.tabs:=by
 obtain ⟨ls,g,cl⟩:=G.g
 obtain ⟨K',e1,g',h1,h2,_,_,_,cl'⟩:=g.put each h0 hl sm hc hs
 have hfl:=g.fl;have hsc:=g.sc;have hn:=g.n;have hll:=g.lsl;have hle:=g.lens K.held (List.mem_cons_self ..);have hcc:=g.cc
 refine (MP hE T.toKwT G.d (by omega) en hB (by omega) (fun e he=>(sm e he).szE) (by omega) ⟨g.hris,by omega,fun e he=>(g.hsm e he).szE⟩ (by omega) (fun _=>by have:=sm.TU;omega)).mono fun r h' ⟨e2,W',d,k,w⟩=> ?_
 rw [e1] at e2 d
 exact ⟨e2,K',⟨W',⟨d,_,g',cl' cl⟩,k,w⟩,h1,h2⟩
theorem abA (hE:∀f e,E f=some e->e.plain) (T:KwP E) (G:DbG h db gd each K W F c s) {v:AV} {B:Nat->Prop} (en:aN h v [] B) (hB:∀k,B k->¬W k):
  WF (lim E) 22 [.ptr db 0,v] h fun r h'=>r= .int .i64 1/\J6 h h' db gd each K W F c s:=by
 obtain ⟨ls,g,cl⟩:=G.g
 have hfl:=g.fl;have hsc:=g.sc;have hn:=g.n;have hll:=g.lsl;have hle:=g.lens K.held (List.mem_cons_self ..);have hcc:=g.cc
 refine (MP hE T.toKwT G.d (by omega) en hB (by simp) (fun e he=>by cases he) (by omega) ⟨g.hris,by omega,fun e he=>(g.hsm e he).szE⟩ (by omega) (fun _=>by decide)).mono fun r h' ⟨e2,W',d,k,w⟩=> ?_
 have e1:JS each K []=(1,K):=by unfold JS;rw [if_pos (.inl (by decide))]
 rw [e1] at e2 d
 exact ⟨e2,W',⟨d,_,g,cl⟩,k,w⟩
theorem J9 (hE:∀f e,E f=some e->e.plain) (T:KwP E) (G:DbG h db gd each K W F c s) (hs:s+1<=100):
  WF (lim E) 44 [.ptr db 0] h fun r h'=>r= .int .i64 0/\∃K',J6 h h' db gd each K' W F c (s+1)/\K'.held=[]/\K'.tabs=(if K.held=[] then K.tabs else K.held::K.tabs):=by
 obtain ⟨ls,g,cl⟩:=G.g
 obtain ⟨ff,K',e1,g',h1,h2,_,cl'⟩:=g.flush hs
 refine (OL hE T.toKwF G.d g.kok ff).mono fun r h' ⟨e2,W',d,k,w⟩=> ?_
 rw [e1] at e2 d
 exact ⟨e2,K',⟨W',⟨d,_,g',cl' cl⟩,k,w⟩,h1,h2⟩
theorem Ud (hE:∀f e,E f=some e->e.plain) (T:KwP E) (G:DbG h db gd each K W F c s) (hs:s+1<=100):
  WF (lim E) 45 [.ptr db 0] h fun r h'=>r= .int .i64 0/\∃K',J6 h h' db gd each K' W F c (s+1)/\K'.held=K.held/\K'.tabs=(if aY (joinL K.tabs)=[] then [] else [aY (joinL K.tabs)]):=by
 obtain ⟨ls,g,cl⟩:=G.g
 obtain ⟨mm,K',e1,g',h1,h2,cl'⟩:=g.merge hs
 refine (OT hE T.toKwM G.d g.kok mm).mono fun r h' ⟨e2,W',d,k,w⟩=> ?_
 rw [e1] at e2 d
 exact ⟨e2,K',⟨W',⟨d,_,g',cl' cl⟩,k,w⟩,h1,h2⟩
theorem ZY (hE:∀f e,E f=some e->e.plain) (T:KwP E) (G:DbG h db gd each K W F c s) {av bv:AV} {a b:List UInt8} (ha:RS h 1 av a.length (a.map ub)) (hb:RS h 1 bv b.length (b.map ub)):
  WF (lim E) 47 [.ptr db 0,av,bv] h fun r h'=>Keep NoB h h'/\OE h' r (jl a b (kT K)) h.n (fun k=>h.n<=k):=by
 obtain ⟨ls,g,cl⟩:=G.g
 refine (OJ hE T.toKwR G.d g.kok ha hb).mono fun r h' ⟨k,o⟩=> ?_
 rw [Un] at o
 exact ⟨k,o⟩
theorem ZW (hE:∀f e,E f=some e->e.plain) (T:KwP E) (G:DbG h db gd each K W F c s):
  WF (lim E) 47 [.ptr db 0, .ae, .ae] h fun r h'=>Keep NoB h h'/\OE h' r (kT K) h.n (fun k=>h.n<=k):=by
 refine (ZY hE T G (av:= .ae) (bv:= .ae) (a:=[]) (b:=[]) ⟨rfl,rfl⟩ ⟨rfl,rfl⟩).mono fun r h' ⟨k,o⟩=> ?_
 rw [ML] at o
 exact ⟨k,o⟩
theorem abB (hE:∀f e,E f=some e->e.plain) (T:KwP E) (G:DbG h db gd each K W F c s) {av:AV} {a:List UInt8} (ha:RS h 1 av a.length (a.map ub)):
  WF (lim E) 26 [.ptr db 0,av] h fun r h'=>abp h (aO EM.key (joinL (K.held::K.tabs)) a) r h':=by
 obtain ⟨ls,g,cl⟩:=G.g
 exact Xm hE T.toKwG G.d g.kok ha
theorem DbG.len (G:DbG h db gd each K W F c s):(kT K).length<=c/\c<=1000/\K.held.length<=c/\bP (kT K)/\dI K.held:=by
 obtain ⟨ls,g,cl⟩:=G.g
 have h1:=tV (K.held::K.tabs)
 have h2:=g.cnt
 have h3:(kT K).length<=(joinL (K.held::K.tabs)).length:=List.length_filter_le _ _
 rw [List.map_cons,List.sum_cons] at h1
 exact ⟨by omega,g.cc,by omega,(bP.join g.sm).filter _,g.hris⟩
end
def mF:BF:=⟨10,[0,1,2,8],(.seq (.reg [mvS 0 (.mv (.const .bU))]) (.seq (.reg [clE 4 70 [(.const (.int .i64 16777216))],ceE 3 4,exE 5 0 3,exE 6 1 3,csE 1 5,csE 2 6]) (.seq (.seq (.reg [ceS 7 2,mvS 3 (.bin .neq .no (eV 7) (.const (.int .i64 0)))]) (.cond (sL 3) (.seq (.reg [mvS 0 (.mv (.const .bU))]) .ret) .skip)) (.seq (.reg [ceS 9 1,csE 0 9]) .ret)))),[.slot (sL 0)]⟩
def mG:BF:=⟨90,[0,1,2,3,4,5,7,10,32,65],(.seq (.reg [mvS 0 (.mv (.const (.bool false)))]) (.seq (.reg [clE 8 42 [],csE 1 8]) (.seq (.seq (.reg [ceS 9 1,mvS 7 (.bin .eql .ptr (eV 9) (.const .bU))]) (.cond (sL 7) (.seq (.reg [mvS 0 (.mv (.const (.bool false)))]) .ret) .skip)) (.seq (.reg [ceS 12 1,clE 13 31 [eV 12,(.const (.bool false))],ceE 11 13,exE 14 0 11,exE 15 1 11,csE 2 14,csE 3 15]) (.seq (.seq (.reg [ceS 16 2,mvE 17 (.bin .eql .ptr (eV 16) (.const .bU)),ceE 18 17, .mk (some ((eV 18),false)) (.env 19) (.mov (.mv (sL 3))), .mk (some ((eV 18),false)) (.env 20) (.mov (.bin .neq .no (eV 19) (.const (.int .i64 0)))),mvE 21 (.pick (eV 18) (.const (.bool true)) (eV 20)),ceE 22 21, .mk (some ((eV 22),false)) (.env 23) (.mov (.mv (sL 2))), .mk (some ((eV 22),false)) (.env 24) (.eff (.aF 1 1 [(.int .u8 0)] [(0,1,(.const (.int .u8 97)))])), .mk (some ((eV 22),false)) (.env 25) (.eff (.mark (eV 24))), .mk (some ((eV 22),false)) (.env 26) (.eff (.aF 1 1 [(.int .u8 0)] [(0,1,(.const (.int .u8 49)))])), .mk (some ((eV 22),false)) (.env 27) (.eff (.mark (eV 26))), .mk (some ((eV 22),false)) (.env 28) (.mov (.bld [.ae, .ae,(.bool false)] [(0,1,(eV 25)),(1,1,(eV 27))])), .mk (some ((eV 22),false)) (.env 29) (.eff (.aF 3 1 [.ae, .ae,(.bool false)] [(0,3,(eV 28))])), .mk (some ((eV 22),false)) (.env 30) (.call 22 [eV 23,eV 29]), .mk (some ((eV 22),false)) (.env 31) (.mov (.bin .neq .no (eV 30) (.const (.int .i64 0)))),mvS 8 (.pick (eV 22) (.const (.bool true)) (eV 31))]) (.cond (sL 8) (.seq (.reg [mvS 0 (.mv (.const (.bool false)))]) .ret) .skip)) (.seq (.reg [ceS 34 2,efE 35 (.aF 1 1 [(.int .u8 0)] [(0,1,(.const (.int .u8 97)))]),efE 36 (.mark (eV 35)),clE 37 26 [eV 34,eV 36],ceE 33 37,exE 38 0 33,exE 39 1 33,csE 4 38,csE 5 39]) (.seq (.seq (.reg [ceS 40 5,mvE 41 (.jd (eV 40)),ceE 42 41, .mk (some ((eV 42),false)) (.env 43) (.mov (.mv (sL 4))), .mk (some ((eV 42),false)) (.env 44) (.mov (.b2s (eV 43))), .mk (some ((eV 42),false)) (.env 45) (.mov (.bin .neq .no (eV 44) (.const (.str [49])))),mvE 46 (.pick (eV 42) (.const (.bool true)) (eV 45)),ceE 47 46, .mk (some ((eV 47),false)) (.env 48) (.mov (.mv (sL 2))), .mk (some ((eV 47),false)) (.env 49) (.call 44 [eV 48]), .mk (some ((eV 47),false)) (.env 50) (.mov (.bin .neq .no (eV 49) (.const (.int .i64 0)))),mvE 51 (.pick (eV 47) (.const (.bool true)) (eV 50)),ceE 52 51, .mk (some ((eV 52),false)) (.env 53) (.mov (.mv (sL 2))), .mk (some ((eV 52),false)) (.env 54) (.eff (.aF 1 1 [(.int .u8 0)] [(0,1,(.const (.int .u8 97)))])), .mk (some ((eV 52),false)) (.env 55) (.eff (.mark (eV 54))), .mk (some ((eV 52),false)) (.env 56) (.mov (.bld [.ae, .ae,(.bool false)] [(0,1,(eV 55)),(2,1,(.const (.bool true)))])), .mk (some ((eV 52),false)) (.env 57) (.eff (.aF 3 1 [.ae, .ae,(.bool false)] [(0,3,(eV 56))])), .mk (some ((eV 52),false)) (.env 58) (.call 22 [eV 53,eV 57]), .mk (some ((eV 52),false)) (.env 59) (.mov (.bin .neq .no (eV 58) (.const (.int .i64 0)))),mvE 60 (.pick (eV 52) (.const (.bool true)) (eV 59)),ceE 61 60, .mk (some ((eV 61),false)) (.env 62) (.mov (.mv (sL 2))), .mk (some ((eV 61),false)) (.env 63) (.call 45 [eV 62]), .mk (some ((eV 61),false)) (.env 64) (.mov (.bin .neq .no (eV 63) (.const (.int .i64 0)))),mvS 9 (.pick (eV 61) (.const (.bool true)) (eV 64))]) (.cond (sL 9) (.seq (.reg [mvS 0 (.mv (.const (.bool false)))]) .ret) .skip)) (.seq (.reg [ceS 67 2,efE 68 (.aF 1 1 [(.int .u8 0)] [(0,1,(.const (.int .u8 97)))]),efE 69 (.mark (eV 68)),clE 70 26 [eV 67,eV 69],ceE 66 70,exE 71 0 66,exE 72 1 66,ceE 6 71,csE 6 72]) (.seq (.reg [ceS 73 6,mvE 74 (.jd (eV 73)),ceE 75 74, .mk (some ((eV 75),true)) (.env 76) (.mov (.mv (sL 2))), .mk (some ((eV 75),true)) (.env 77) (.call 22 [eV 76,(.const .ae)]), .mk (some ((eV 75),true)) (.env 78) (.mov (.bin .eql .no (eV 77) (.const (.int .i64 1)))),mvE 79 (.pick (eV 75) (eV 78) (.const (.bool false))),ceE 80 79, .mk (some ((eV 80),true)) (.env 81) (.mov (.mv (sL 2))), .mk (some ((eV 80),true)) (.env 82) (.call 52 [eV 81]), .mk (some ((eV 80),true)) (.env 83) (.mov (.bin .eql .no (eV 82) (.const (.int .i64 1)))),mvE 84 (.pick (eV 80) (eV 83) (.const (.bool false))),ceE 85 84, .mk (some ((eV 85),true)) (.env 86) (.mov (.mv (sL 2))), .mk (some ((eV 85),true)) (.env 87) (.call 53 [eV 86]), .mk (some ((eV 85),true)) (.env 88) (.mov (.bin .eql .no (eV 87) (.const (.int .i64 1)))),mvE 89 (.pick (eV 85) (eV 88) (.const (.bool false))),csE 0 89]) .ret))))))))),[.slot (sL 0)]⟩
theorem Kt {e:En} {t:List AV} {h:Hp MD} {z0 z1 z2:AV} {x y:Od} {a b:AV} (hx:x.ev e t=a) (hy:y.ev e t=b) (ha:cellsOf a=some [a]) (hb:cellsOf b=some [b]):(Mv.bld [z0,z1,z2] [(0,1,x),(1,1,y)]).ev e t h=some (.agg [a,b,z2]):=by
 simp only [Mv.ev,List.map,hx,hy,fillA,ha,hb]
 rfl
theorem rZ {e:En} {t:List AV} {h:Hp MD} {x:Od} {g:Nat} {l:List AV} (hx:x.ev e t= .slice 1 g 0 1 (some 1)) (hg:h.get g=some (.rw l)):(Ef.mark x).ev e t h=some (.slice 1 g 0 1 (some 1),h.put g (.rw l)):=by
 simp only [Ef.ev,hx,hg]
 rfl
theorem one_byte (h:Hp MD) (b:UInt8):Keep NoB h ((h.push (.rw ([b].map ub))).put h.n (.rw ([b].map ub)))/\RS ((h.push (.rw ([b].map ub))).put h.n (.rw ([b].map ub))) 1 (.slice 1 h.n 0 1 (some 1)) 1 ([b].map ub)/\((h.push (.rw ([b].map ub))).put h.n (.rw ([b].map ub))).n=h.n+1:=
 ⟨(Keep.push NoB h _).own (Keep.put (S:=az h.n) _ _ _ rfl) (fun k q=>by have q:k=h.n:=q;omega),⟨rfl,rfl,Nat.lt_succ_self _,[b].map ub,eF (Hp.bW _ _ _),Nat.le_refl _,rfl⟩,rfl⟩
theorem IC {h:Hp MD} {q:T3} {e:EM} (v:eH h q e):aN (h.push (.rw (f3 q))) (.slice 3 h.n 0 1 (some 1)) [e] (fun k=>k=h.n\/blk q.1 k\/blk q.2.1 k):=by
 refine ⟨[q],bH (n:=1) (z:=3) rfl,rfl,fun i r x q1 q2=> ?_,fun k z=> .inl z,fun r hr k hk=> ?_⟩
 ·cases i with
  |zero=>simp at q1 q2;subst q1 q2;exact v.up (Keep.push _ _ _)
  |succ i=>simp at q1
 ·rw [List.mem_singleton.1 hr] at hk
  exact .inr hk
structure KwV (E:Nat->Option (Ent MD)):Prop extends KwP E,WaK E where
 new:E 70=some (.nat Gx)
 fresh:E 42=some (.bc mF)
 known:E 48=some (.bc mG)
section
variable {E:Nat->Option (Ent MD)}
theorem xU (hE:∀f e,E f=some e->e.plain) (T:KwV E) {h:Hp MD}:WF (lim E) 42 [] h fun r h'=>r= .ptr h.n 0/\Ob h' h.n (MD.new 16777216)/\Keep NoB h h':=by
 refine aC hE T.fresh rfl ?_
 simp only [mF,mvE,mvS,clE,efE,ceS,ceE,csE,faE,nlE,ldE,lnE,exE,eV,sL,kI,List.map,getS]
 repeat first|refine ZA ?_|refine BP ?_|refine BQ ?_
 refine ag rfl ((aaO hE T.new (n:=16777216) (by omega) (by omega)).mono fun r h1 ⟨e1,o1,k1,_⟩=> ?_)
 subst e1
 repeat first|refine ZA ?_|refine BP ?_|refine BQ ?_
 exact ⟨rfl,o1,k1⟩
set_option maxHeartbeats 8000000 in
theorem Iz (hE:∀f e,E f=some e->e.plain) (T:KwV E) {h:Hp MD}:WF (lim E) 48 [] h fun r _=>r= .bool true:=by
 refine aC hE T.known rfl ?_
 simp only [mG,mvE,mvS,clE,efE,ceS,ceE,csE,faE,nlE,ldE,lnE,exE,eV,sL,kI,List.map,getS]
 repeat first|refine ZA ?_|refine BP ?_|refine BQ ?_
 refine ag rfl ((xU hE T).mono fun r h1 ⟨e1,o1,k1⟩=> ?_)
 subst e1
 have n1:=k1.n
 have l1:=o1.lt
 repeat first|refine ZA ?_|refine BV (nC rfl) ?_|refine BP ?_|refine BQ ?_
 refine ag rfl ((Ua hE T.toKwP o1 false).mono fun r h2 ⟨db,K,W,e2,G,hh,ht,k2,w2,l2⟩=> ?_)
 subst e2
 have n2:=k2.n
 have wlo:∀k,W k->h.n<=k:=fun k q=>by rcases w2 k q with q|q<;>omega
 repeat first|refine ZA ?_|refine BV (nC rfl) ?_|refine BW (kX (b:=97) rfl) ?_|refine BP ?_|refine BQ ?_
 refine BG ?_
 refine BL ?_
 refine BW (rZ rfl (Hp.aK _ _)) ?_
 obtain ⟨h3,hh3⟩:∃h3:Hp MD,h3=(h2.push (.rw ([97].map ub))).put h2.n (.rw ([97].map ub)):=⟨_,rfl⟩
 obtain ⟨k3,r3,n3⟩:=one_byte h2 97
 refine aJ (h':=h3) (by rw [hh3];first|done|rfl) ?_
 rw [<-hh3] at k3 r3 n3
 clear hh3
 repeat first|refine ZA ?_|refine BW (kX (b:=49) rfl) ?_|refine BP ?_|refine BQ ?_
 refine BG ?_
 refine BL ?_
 refine BW (rZ rfl (Hp.aK _ _)) ?_
 obtain ⟨h4,hh4⟩:∃h4:Hp MD,h4=(h3.push (.rw ([49].map ub))).put h3.n (.rw ([49].map ub)):=⟨_,rfl⟩
 obtain ⟨k4,r4,n4⟩:=one_byte h3 49
 refine aJ (h':=h4) (by rw [hh4];first|done|rfl) ?_
 rw [<-hh4] at k4 r4 n4
 clear hh4
 have v4:eH h4 (.slice 1 h2.n 0 1 (some 1), .slice 1 h3.n 0 1 (some 1),false) ⟨[97],[49],false⟩:=⟨rfl,r3.up k4,r4,by intro q;cases q⟩
 have E5:=IC v4
 have k5:Keep NoB h4 (h4.push (.rw (f3 (.slice 1 h2.n 0 1 (some 1), .slice 1 h3.n 0 1 (some 1),false)))):=Keep.push _ _ _
 have n5:(h4.push (.rw (f3 (.slice 1 h2.n 0 1 (some 1), .slice 1 h3.n 0 1 (some 1),false)))).n=h4.n+1:=rfl
 repeat first|refine ZA ?_|refine BV (Kt rfl rfl rfl rfl) ?_|refine BW (ji rfl rfl rfl) ?_|refine BP ?_|refine BQ ?_
 refine aJ (h':=h4.push (.rw (f3 (.slice 1 h2.n 0 1 (some 1), .slice 1 h3.n 0 1 (some 1),false)))) rfl ?_
 generalize h4.push (.rw (f3 (.slice 1 h2.n 0 1 (some 1), .slice 1 h3.n 0 1 (some 1),false)))=h5 at*
 have G5:=((G.up k3).up k4).up k5
 have Glt:=G.lt
 refine ag rfl ((Ub hE T.toKwP G5 E5 (fun k q q2=>by have:=Glt k q2;rcases q with q|q|q;omega;have q:k=h2.n:=q;omega;have q:k=h3.n:=q;omega) (by simp) (by simp) (fun e he=>by rw [List.mem_singleton.1 he];exact ⟨by decide,by decide,by decide,fun q=>by cases q⟩) (by simp) (by decide)).mono fun r h6 ⟨e6,K6,⟨W6,G6,k6,w6⟩,hh6,ht6⟩=> ?_)
 subst e6
 have a6:=Iy G.len.2.2.2.2 _ hh6 ht6
 rw [hh] at hh6
 rw [ht] at ht6
 have n6:=k6.n
 clear E5 v4 r3 r4 G5
 repeat first|refine ZA ?_|refine BW (kX (b:=97) rfl) ?_|refine BP ?_|refine BQ ?_
 refine BG ?_
 refine BL ?_
 refine BW (rZ rfl (Hp.aK _ _)) ?_
 obtain ⟨h7,hh7⟩:∃h7:Hp MD,h7=(h6.push (.rw ([97].map ub))).put h6.n (.rw ([97].map ub)):=⟨_,rfl⟩
 obtain ⟨k7,r7,n7⟩:=one_byte h6 97
 refine aJ (h':=h7) (by rw [hh7];first|done|rfl) ?_
 rw [<-hh7] at k7 r7 n7
 clear hh7
 have G7:=G6.up k7
 have acJ:aO EM.key (joinL (K6.held::K6.tabs)) [97]=some ⟨[97],[49],false⟩:=by rw [hh6,ht6];rfl
 refine ag rfl ((abB hE T.toKwP G7 (a:=[97]) r7).mono fun r h8 ⟨k8,p8⟩=> ?_)
 rw [acJ] at p8
 obtain ⟨v8,e8,r8,l8⟩:=p8
 subst e8
 have G8:=G7.up k8
 repeat first|refine ZA ?_|refine BV (di rfl) ?_|refine BV (fP rfl r8) ?_|refine BV (sZ rfl rfl rfl) ?_|refine BP ?_|refine BQ ?_
 refine ag rfl ((J9 hE T.toKwP G8 (by decide)).mono fun r h9 ⟨e9,K9,⟨W9,G9,k9,w9⟩,hh9,ht9⟩=> ?_)
 subst e9
 rw [hh6,ht6] at ht9
 rw [if_neg (by decide)] at ht9
 have n7':=k8.n
 have n9:=k9.n
 repeat first|refine ZA ?_|refine BW (kX (b:=97) rfl) ?_|refine BP ?_|refine BQ ?_
 refine BG ?_
 refine BL ?_
 refine BW (rZ rfl (Hp.aK _ _)) ?_
 obtain ⟨h10,ZZ⟩:∃h10:Hp MD,h10=(h9.push (.rw ([97].map ub))).put h9.n (.rw ([97].map ub)):=⟨_,rfl⟩
 obtain ⟨k10,r10,n10⟩:=one_byte h9 97
 refine aJ (h':=h10) (by rw [ZZ];first|done|rfl) ?_
 rw [<-ZZ] at k10 r10 n10
 clear ZZ
 have v10:eH h10 (.slice 1 h9.n 0 1 (some 1), .ae,true) ⟨[97],[],true⟩:=⟨rfl,r10,⟨rfl,rfl⟩,by intro q;cases q⟩
 have E11:=IC v10
 have k11:Keep NoB h10 (h10.push (.rw (f3 (.slice 1 h9.n 0 1 (some 1), .ae,true)))):=Keep.push _ _ _
 have n11:(h10.push (.rw (f3 (.slice 1 h9.n 0 1 (some 1), .ae,true)))).n=h10.n+1:=rfl
 repeat first|refine ZA ?_|refine BV (yF rfl rfl rfl rfl) ?_|refine BW (ji rfl rfl rfl) ?_|refine BP ?_|refine BQ ?_
 refine aJ (h':=h10.push (.rw (f3 (.slice 1 h9.n 0 1 (some 1), .ae,true)))) rfl ?_
 generalize h10.push (.rw (f3 (.slice 1 h9.n 0 1 (some 1), .ae,true)))=h11 at*
 have G11:=(G9.up k10).up k11
 have acK:=G9.lt
 refine ag rfl ((Ub hE T.toKwP G11 E11 (fun k q q2=>by have:=acK k q2;rcases q with q|q|q;omega;have q:k=h9.n:=q;omega;exact q.elim) (by simp) (by simp) (fun e he=>by rw [List.mem_singleton.1 he];exact ⟨by decide,by decide,by decide,fun q=>rfl⟩) (by simp) (by decide)).mono fun r h12 ⟨e12,K12,⟨W12,G12,k12,w12⟩,hh12,abC⟩=> ?_)
 subst e12
 rw [hh9] at hh12
 rw [ht9] at abC
 repeat first|refine ZA ?_|refine BP ?_|refine BQ ?_
 refine ag rfl ((Ud hE T.toKwP G12 (by decide)).mono fun r h13 ⟨e13,K13,⟨W13,G13,k13,w13⟩,Z4,Z5⟩=> ?_)
 subst e13
 rw [hh12] at Z4
 rw [abC,if_neg (by decide)] at Z5
 repeat first|refine ZA ?_|refine BW (kX (b:=97) rfl) ?_|refine BP ?_|refine BQ ?_
 refine BG ?_
 refine BL ?_
 refine BW (rZ rfl (Hp.aK _ _)) ?_
 obtain ⟨h14,Fe⟩:∃h14:Hp MD,h14=(h13.push (.rw ([97].map ub))).put h13.n (.rw ([97].map ub)):=⟨_,rfl⟩
 obtain ⟨k14,r14,n14⟩:=one_byte h13 97
 refine aJ (h':=h14) (by rw [Fe];first|done|rfl) ?_
 rw [<-Fe] at k14 r14 n14
 clear Fe
 have G14:=G13.up k14
 have abD:aO EM.key (joinL (K13.held::K13.tabs)) [97]=some ⟨[97],[],true⟩:=by rw [Z4,Z5];rfl
 refine ag rfl ((abB hE T.toKwP G14 (a:=[97]) r14).mono fun r h15 ⟨k15,p15⟩=> ?_)
 rw [abD] at p15
 obtain ⟨v15,e15,r15,l15⟩:=p15
 subst e15
 have G15:=G14.up k15
 repeat first|refine ZA ?_|refine BV (di rfl) ?_|refine BP ?_|refine BQ ?_
 refine ag rfl ((abA hE T.toKwP G15 (v:= .ae) (OE.nil (h:=h15) (lo:=h15.n) (F:=fun _=>False)).oM (fun k q q2=>by have:=G15.lt k q2;rcases q with q|q;exact q.elim;omega)).mono fun r h16 ⟨e16,W16,G16,k16,w16⟩=> ?_)
 subst e16
 repeat first|refine ZA ?_|refine BP ?_|refine BQ ?_
 refine ag rfl ((Io hE T.toKwT G16.d).mono fun r h17 ⟨e17,e18⟩=> ?_)
 subst e17 e18
 have l1:(K13.tabs.length:Int)=1:=by rw [Z5];rfl
 have l2:(K13.held.length:Int)=1:=by rw [Z4];rfl
 rw [l1]
 repeat first|refine ZA ?_|refine BP ?_|refine BQ ?_
 refine ag rfl ((Ip hE T.toKwT G16.d).mono fun r h18 ⟨e19,e20⟩=> ?_)
 subst e19 e20
 rw [l2]
 repeat first|refine ZA ?_|refine BP ?_|refine BQ ?_
 rfl
end
set_option maxRecDepth 1000000
theorem OW:bfOf Tryz.prog (drOf Tryz.prog) 147 iq.keep=some iq:=by kernel_rfl
theorem Xx:bfOf Tryz.prog (drOf Tryz.prog) 112 dD.keep=some dD:=by kernel_rfl
theorem Uo:bfOf Tryz.prog (drOf Tryz.prog) 110 jo.keep=some jo:=by kernel_rfl
theorem Ur:bfOf Tryz.prog (drOf Tryz.prog) 72 ku.keep=some ku:=by kernel_rfl
theorem Us:bfOf Tryz.prog (drOf Tryz.prog) 78 kC.keep=some kC:=by kernel_rfl
theorem Ku:bfOf Tryz.prog (drOf Tryz.prog) 109 gY.keep=some gY:=by kernel_rfl
theorem Ut:bfOf Tryz.prog (drOf Tryz.prog) 67 kD.keep=some kD:=by kernel_rfl
theorem Kw:bfOf Tryz.prog (drOf Tryz.prog) 90 gZ.keep=some gZ:=by kernel_rfl
theorem Uu:bfOf Tryz.prog (drOf Tryz.prog) 79 kE.keep=some kE:=by kernel_rfl
theorem IE:bfOf Tryz.prog (drOf Tryz.prog) 151 fH.keep=some fH:=by kernel_rfl
theorem Z7:bfOf Tryz.prog (drOf Tryz.prog) 150 rM.keep=some rM:=by kernel_rfl
theorem Ky:bfOf Tryz.prog (drOf Tryz.prog) 113 ig.keep=some ig:=by kernel_rfl
theorem Uw:bfOf Tryz.prog (drOf Tryz.prog) 68 kF.keep=some kF:=by kernel_rfl
theorem Kz:bfOf Tryz.prog (drOf Tryz.prog) 91 ik.keep=some ik:=by kernel_rfl
theorem Ux:bfOf Tryz.prog (drOf Tryz.prog) 86 kG.keep=some kG:=by kernel_rfl
theorem Uy:bfOf Tryz.prog (drOf Tryz.prog) 114 lZ.keep=some lZ:=by kernel_rfl
theorem Xy:bfOf Tryz.prog (drOf Tryz.prog) 131 qp.keep=some qp:=by kernel_rfl
theorem Uz:bfOf Tryz.prog (drOf Tryz.prog) 132 kH.keep=some kH:=by kernel_rfl
theorem UA:bfOf Tryz.prog (drOf Tryz.prog) 133 kJ.keep=some kJ:=by kernel_rfl
theorem OX:bfOf Tryz.prog (drOf Tryz.prog) 134 jc.keep=some jc:=by kernel_rfl
theorem UB:bfOf Tryz.prog (drOf Tryz.prog) 88 kK.keep=some kK:=by kernel_rfl
theorem UD:bfOf Tryz.prog (drOf Tryz.prog) 87 kL.keep=some kL:=by kernel_rfl
theorem IG:bfOf Tryz.prog (drOf Tryz.prog) 187 eP.keep=some eP:=by kernel_rfl
theorem UE:bfOf Tryz.prog (drOf Tryz.prog) 66 fA.keep=some fA:=by kernel_rfl
theorem UF:bfOf Tryz.prog (drOf Tryz.prog) 178 jY.keep=some jY:=by kernel_rfl
theorem OY:bfOf Tryz.prog (drOf Tryz.prog) 159 jb.keep=some jb:=by kernel_rfl
theorem KA:bfOf Tryz.prog (drOf Tryz.prog) 161 gX.keep=some gX:=by kernel_rfl
theorem OZ:bfOf Tryz.prog (drOf Tryz.prog) 192 oZ.keep=some oZ:=by kernel_rfl
theorem II:bfOf Tryz.prog (drOf Tryz.prog) 191 jZ.keep=some jZ:=by kernel_rfl
theorem KC:bfOf Tryz.prog (drOf Tryz.prog) 190 lY.keep=some lY:=by kernel_rfl
theorem Fv:bfOf Tryz.prog (drOf Tryz.prog) 185 jr.keep=some jr:=by kernel_rfl
theorem UG:bfOf Tryz.prog (drOf Tryz.prog) 115 dU.keep=some dU:=by kernel_rfl
theorem UH:bfOf Tryz.prog (drOf Tryz.prog) 156 rJ.keep=some rJ:=by kernel_rfl
theorem KD:bfOf Tryz.prog (drOf Tryz.prog) 155 jL.keep=some jL:=by kernel_rfl
theorem O4:bfOf Tryz.prog (drOf Tryz.prog) 119 pg.keep=some pg:=by kernel_rfl
theorem UI:bfOf Tryz.prog (drOf Tryz.prog) 64 rP.keep=some rP:=by kernel_rfl
theorem IJ:bfOf Tryz.prog (drOf Tryz.prog) 122 jW.keep=some jW:=by kernel_rfl
theorem O5:bfOf Tryz.prog (drOf Tryz.prog) 176 lI.keep=some lI:=by kernel_rfl
theorem KE:bfOf Tryz.prog (drOf Tryz.prog) 175 eQ.keep=some eQ:=by kernel_rfl
theorem UJ:bfOf Tryz.prog (drOf Tryz.prog) 186 fB.keep=some fB:=by kernel_rfl
theorem O6:bfOf Tryz.prog (drOf Tryz.prog) 146 lH.keep=some lH:=by kernel_rfl
theorem O7:bfOf Tryz.prog (drOf Tryz.prog) 105 oL.keep=some oL:=by kernel_rfl
theorem KF:bfOf Tryz.prog (drOf Tryz.prog) 120 lV.keep=some lV:=by kernel_rfl
theorem O8:bfOf Tryz.prog (drOf Tryz.prog) 74 oN.keep=some oN:=by kernel_rfl
theorem UK:bfOf Tryz.prog (drOf Tryz.prog) 62 rE.keep=some rE:=by kernel_rfl
theorem Xz:bfOf Tryz.prog (drOf Tryz.prog) 107 tq.keep=some tq:=by kernel_rfl
theorem O9:bfOf Tryz.prog (drOf Tryz.prog) 63 oO.keep=some oO:=by kernel_rfl
theorem Pg:bfOf Tryz.prog (drOf Tryz.prog) 83 oP.keep=some oP:=by kernel_rfl
theorem XA:bfOf Tryz.prog (drOf Tryz.prog) 117 qj.keep=some qj:=by kernel_rfl
theorem KG:bfOf Tryz.prog (drOf Tryz.prog) 152 gQ.keep=some gQ:=by kernel_rfl
theorem XB:bfOf Tryz.prog (drOf Tryz.prog) 106 mW.keep=some mW:=by kernel_rfl
theorem Pj:bfOf Tryz.prog (drOf Tryz.prog) 154 jG.keep=some jG:=by kernel_rfl
theorem Z8:bfOf Tryz.prog (drOf Tryz.prog) 172 ru.keep=some ru:=by kernel_rfl
theorem Z9:bfOf Tryz.prog (drOf Tryz.prog) 183 qg.keep=some qg:=by kernel_rfl
theorem Pm:bfOf Tryz.prog (drOf Tryz.prog) 81 iY.keep=some iY:=by kernel_rfl
theorem XC:bfOf Tryz.prog (drOf Tryz.prog) 126 mX.keep=some mX:=by kernel_rfl
theorem KH:bfOf Tryz.prog (drOf Tryz.prog) 127 jH.keep=some jH:=by kernel_rfl
theorem UL:bfOf Tryz.prog (drOf Tryz.prog) 153 oz.keep=some oz:=by kernel_rfl
theorem KI:bfOf Tryz.prog (drOf Tryz.prog) 118 jI.keep=some jI:=by kernel_rfl
theorem Pn:bfOf Tryz.prog (drOf Tryz.prog) 82 oG.keep=some oG:=by kernel_rfl
theorem UM:bfOf Tryz.prog (drOf Tryz.prog) 71 rC.keep=some rC:=by kernel_rfl
theorem Po:bfOf Tryz.prog (drOf Tryz.prog) 89 lG.keep=some lG:=by kernel_rfl
theorem XD:bfOf Tryz.prog (drOf Tryz.prog) 75 sV.keep=some sV:=by kernel_rfl
theorem KJ:bfOf Tryz.prog (drOf Tryz.prog) 123 gU.keep=some gU:=by kernel_rfl
theorem UN:bfOf Tryz.prog (drOf Tryz.prog) 73 rQ.keep=some rQ:=by kernel_rfl
theorem XE:bfOf Tryz.prog (drOf Tryz.prog) 80 wE.keep=some wE:=by kernel_rfl
theorem XF:bfOf Tryz.prog (drOf Tryz.prog) 22 wF.keep=some wF:=by kernel_rfl
theorem UO:bfOf Tryz.prog (drOf Tryz.prog) 55 wG.keep=some wG:=by kernel_rfl
theorem KL:bfOf Tryz.prog (drOf Tryz.prog) 52 mi.keep=some mi:=by kernel_rfl
theorem UQ:bfOf Tryz.prog (drOf Tryz.prog) 53 rU.keep=some rU:=by kernel_rfl
theorem Pq:bfOf Tryz.prog (drOf Tryz.prog) 47 pz.keep=some pz:=by kernel_rfl
theorem XG:bfOf Tryz.prog (drOf Tryz.prog) 26 wI.keep=some wI:=by kernel_rfl
theorem Pv:bfOf Tryz.prog (drOf Tryz.prog) 44 pF.keep=some pF:=by kernel_rfl
theorem XH:bfOf Tryz.prog (drOf Tryz.prog) 129 qA.keep=some qA:=by kernel_rfl
theorem Px:bfOf Tryz.prog (drOf Tryz.prog) 84 lJ.keep=some lJ:=by kernel_rfl
theorem Py:bfOf Tryz.prog (drOf Tryz.prog) 45 pJ.keep=some pJ:=by kernel_rfl
theorem aab:bfOf Tryz.prog (drOf Tryz.prog) 124 xA.keep=some xA:=by kernel_rfl
theorem aac:bfOf Tryz.prog (drOf Tryz.prog) 158 uQ.keep=some uQ:=by kernel_rfl
theorem UR:bfOf Tryz.prog (drOf Tryz.prog) 76 rW.keep=some rW:=by kernel_rfl
theorem UT:bfOf Tryz.prog (drOf Tryz.prog) 31 rX.keep=some rX:=by kernel_rfl
theorem Pz:bfOf Tryz.prog (drOf Tryz.prog) 21 lF.keep=some lF:=by kernel_rfl
theorem A7:bfOf Tryz.prog (drOf Tryz.prog) 43 iI.keep=some iI:=by kernel_rfl
theorem KN:bfOf Tryz.prog (drOf Tryz.prog) 42 mF.keep=some mF:=by kernel_rfl
theorem KO:bfOf Tryz.prog (drOf Tryz.prog) 48 mG.keep=some mG:=by kernel_rfl
theorem PD:dfOf Tryz.prog 173 jK.keep jK.G.g jK.G.keep=some jK:=by kernel_rfl
theorem UU:dfOf Tryz.prog 157 jh.keep jh.G.g jh.G.keep=some jh:=by kernel_rfl
end Am
end Go.Proofs.YtbnkdnlfdofepaaGreat
