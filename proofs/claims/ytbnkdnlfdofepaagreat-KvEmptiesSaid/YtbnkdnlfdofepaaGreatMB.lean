/- The plain machine: regions, code, functions. The plain machine: code, functions, the table of functions. The plain machine: a program's functions brought into its form, and that what is brought so stands for them. The plain machine: code and functions brought into its form. The plain machine: what a region that draws its order needs: operands that an operation reads, values held against one another, blocks that are laid later. The plain machine: a region that draws its order: one order serves for all. The plain machine: a region that draws its order: whatever the order, what the fixed one give -/
import Derived.Test.YtbnkdnlfdofepaaGreatMA
import Derived.LoopN
import Derived.Orders
set_option linter.unusedVariables false
set_option linter.unusedSimpArgs false
namespace Go.Proofs.YtbnkdnlfdofepaaGreat
namespace Am
open Go.RowKit
set_option maxRecDepth 10000
variable {P:Program}
inductive gp (X:Type) where
 |ret (v:AV) (h:Hp X)
 |panic (v:AV) (h:Hp X)
 |bad
inductive R (X:Type) where
 |norm (t:List AV) (h:Hp X)
 |brk (k:Nat) (t:List AV) (h:Hp X)
 |ret (t:List AV) (h:Hp X)
 |panic (v:AV) (t:List AV) (h:Hp X)
 |bad
abbrev Dp (X:Type):=Nat->List AV->Hp X->gp X
inductive Op1 where
 |mov (m:Mv)
 |eff (f:Ef)
 |call (f:Nat) (xs:List Od)
 |qO (f:Od) (xs:List Od)
 |pan (x:Od)
inductive St1 where
 |mk (g:Option (Od×Bool)) (d:Ds) (o:Op1)
noncomputable def Op1.run {X:Type} (D:Dp X) (o:Op1) (e:En) (t:List AV) (h:Hp X):gp X:=
 match o with
 | .mov m=>(match m.ev e t h with|some v=> .ret v h|none=> .bad)
 | .eff f=>(match f.ev e t h with|some (v,h')=> .ret v h'|none=> .bad)
 | .call f xs=>D f (xs.map fun x=>x.ev e t) h
 | .qO f xs=>(match f.ev e t with| .func f cs=>D f ((xs.map fun x=>x.ev e t)++cs) h| .meth f fs=>D f (fs++(xs.map fun x=>x.ev e t)) h|_=> .bad)
 | .pan x=>(match x.ev e t with| .iface ty v=> .panic (.iface ty v) h|_=> .bad)
def stepR {X:Type} (x:gp X) (t:List AV) (k:AV->Hp X->R X):R X:=match x with| .ret v h=>k v h| .panic v h=> .panic v t h| .bad=> .bad
def gdv (g:Option (Od×Bool)) (e:En) (t:List AV):Option Bool:=match g with|none=>some true|some (j,want)=>(match j.ev e t with| .bool b=>some (b==want)| .tup _=>some false|_=>none)
def gdR {X:Type} (x:Option Bool) (a b:R X):R X:=match x with|some true=>a|some false=>b|none=> .bad
noncomputable def runRg {X:Type} (D:Dp X):List St1->En->List AV->Hp X->R X
 |[],_,t,h=> .norm t h
 | .mk g d o::r,e,t,h=>gdR (gdv g e t) (stepR (o.run D e t h) t fun v h'=>runRg D r (putE d v e) (putT d v t) h') (runRg D r (putE d (.tup []) e) (putT d (.tup []) t) h)
def callable (P : Program) (f : Nat) : Bool := match P.funcs[f]? with | some fn => !(fn.name == "runtime.NumGoroutine") && fn.body.isSome | none => false
def iy (O:dH) (w0:World) (m:Mu) (h:Hp O.X):gp O.X->Ending->World->Prop
 | .ret v h',e,w'=>∃m' φ' v',(∀g,g < h.n->m' g=m g)/\h.n<=h'.n/\SR O w0 w' m' φ' h'/\VR m' v v'/\e= .returned v'
 | .panic v h',e,w'=>∃m' φ' v',(∀g,g < h.n->m' g=m g)/\h.n<=h'.n/\SR O w0 w' m' φ' h'/\VR m' v v'/\e= .panicked [{v:=v',recovered:=false}]
 | .bad,_,_=>True
def DS (P:Program) (O:dH) (D:Dp O.X):Prop:=
 ∀f args h,D f args h≠ .bad->callable P f=true/\∀{w0 w:World} {m:Mu} {φ:Ph} {args':List Value},SR O w0 w m φ h->VRs m args args'->Calls P f args'.toArray w (iy O w0 m h (D f args h))
def ST (O:dH) (w0:World) (keep:List Nat) (nt:Nat) (ds:List Deferred) (m0:Mu) (n0:Nat) (e:En) (t:List AV) (h:Hp O.X) (a:Act) (w:World):Prop:=
 ∃m φ,(∀g,g < n0->m g=m0 g)/\n0<=h.n/\SR O w0 w m φ h/\FR m keep nt e t a/\a.defers=ds
def QP (O:dH) (w0:World) (keep:List Nat) (nt:Nat) (ds:List Deferred) (m0:Mu) (n0:Nat):R O.X->Exit->Act->World->Prop
 | .norm t h,ex,a,w=>ex= .normal/\ST O w0 keep nt ds m0 n0 [] t h a w
 | .brk k t h,ex,a,w=>ex= .exit k/\ST O w0 keep nt ds m0 n0 [] t h a w
 | .ret t h,ex,a,w=>ex= .ret/\ST O w0 keep nt ds m0 n0 [] t h a w
 | .panic v t h,ex,a,w=>∃v' m φ,ex= .panic [{v:=v',recovered:=false}]/\VR m v v'/\(∀g,g < n0->m g=m0 g)/\n0<=h.n/\SR O w0 w m φ h/\FR m keep nt [] t a/\a.defers=ds
 | .bad,_,_,_=>True
section
variable {O:dH} {D:Dp O.X} {w0:World} {keep:List Nat} {nt:Nat} {ds:List Deferred} {m0:Mu} {n0:Nat}
def xC (P:Program) (keep:List Nat) (o:Oper) (p:Op1):Prop:=
 ∀{O:dH} {D:Dp O.X},DS P O D->∀{w0 w:World} {m:Mu} {φ:Ph} {h:Hp O.X} {nt:Nat} {e:En} {t:List AV} {a:Act},SR O w0 w m φ h->FR m keep nt e t a->p.run D e t h≠ .bad->
  ∀(K:Act->World->Prop) (Q:Exit->Act->World->Prop),
   (∀v h',p.run D e t h= .ret v h'->∀m' φ' w' v',(∀g,g < h.n->m' g=m g)->h.n<=h'.n->SR O w0 w' m' φ' h'->VR m' v v'->K (a.put o.dst v') w')->
   (∀v h',p.run D e t h= .panic v h'->∀m' φ' w' v',(∀g,g < h.n->m' g=m g)->h.n<=h'.n->SR O w0 w' m' φ' h'->VR m' v v'->Q (.panic [{v:=v',recovered:=false}]) a w')->o.wp P a w K Q
theorem Vp {o:Oper} {mv:Mv} (h:fV P keep o mv):xC P keep o (.mov mv):=by
 intro O D hD w0 w m φ hp nt e t a hs hf hb K Q hK hQ
 simp only [Op1.run] at hb hK
 cases hv:mv.ev e t hp with
 |none=>rw [hv] at hb;exact absurd rfl hb
 |some v=>
  rw [hv] at hK
  obtain ⟨v',h1,h2⟩:=h hs hf hv
  unfold Oper.wp
  rw [h2]
  exact hK v hp rfl m φ w v' (fun _ _=>rfl) (Nat.le_refl _) hs h1
theorem Vq {o:Oper} {ef:Ef} (h:uV P keep o ef):xC P keep o (.eff ef):=by
 intro O D hD w0 w m φ hp nt e t a hs hf hb K Q hK hQ
 simp only [Op1.run] at hb hK
 cases hv:ef.ev e t hp with
 |none=>rw [hv] at hb;exact absurd rfl hb
 |some x=>
  obtain ⟨v,h'⟩:=x
  rw [hv] at hK
  obtain ⟨m',φ',w',v',h1,h2,h3,h4,h5⟩:=h hs hf hv
  unfold Oper.wp
  rcases h5 with h5|⟨h5,rfl⟩
  ·rw [h5];exact hK v h' rfl m' φ' w' v' h1 h2 h3 h4
  ·rw [h5];exact hK v h' rfl m' φ' w' _ h1 h2 h3 h4
theorem Ar {f : Nat} (h : callable P f = true) : ∃ fn, P.funcs[f]? = some fn ∧ (fn.name == "runtime.NumGoroutine") = false ∧ fn.body.isNone = false := by
 unfold callable at h
 split at h
 ·rename_i fn hf
  rw [Bool.and_eq_true] at h
  refine ⟨fn,hf,by simpa using h.1, ?_⟩
  cases hb:fn.body with
  |none=>rw [hb] at h;cases h.2
  |some _=>rfl
 ·cases h
theorem kW {f:Nat} (h:callable P f=true) (args:Array Value) (w:World):(callFunc f args).run P w= .ok (.enter f args) w:=by
 obtain ⟨fn,h1,h2,h3⟩:=Ar h
 unfold callFunc
 simp only [Sem.run_bind,run_program,Result.andThen_ok,h1,h2,h3,Bool.false_eq_true,if_false,Sem.run_pure]
theorem DR {o:Oper} {f:Nat} {args:List AV} {args':List Value} (hD:DS P O D) {w:World} {m:Mu} {φ:Ph} {h:Hp O.X} {a:Act} (hs:SR O w0 w m φ h) (hb:D f args h≠ .bad) (hv:VRs m args args')
  (hrun:∀(_:callable P f=true),(execOp a.eval o).run P w= .ok (.enter f args'.toArray) w) (K:Act->World->Prop) (Q:Exit->Act->World->Prop)
  (hK:∀v h',D f args h= .ret v h'->∀m' φ' w' v',(∀g,g < h.n->m' g=m g)->h.n<=h'.n->SR O w0 w' m' φ' h'->VR m' v v'->K (a.put o.dst v') w')
  (hQ:∀v h',D f args h= .panic v h'->∀m' φ' w' v',(∀g,g < h.n->m' g=m g)->h.n<=h'.n->SR O w0 w' m' φ' h'->VR m' v v'->Q (.panic [{v:=v',recovered:=false}]) a w'):o.wp P a w K Q:=by
 obtain ⟨h1,h2⟩:=hD f args h hb
 unfold Oper.wp
 rw [hrun h1,Oper.upon_enter]
 refine (h2 hs hv).mono fun e w' hp=> ?_
 cases hd:D f args h with
 |bad=>exact absurd hd hb
 |ret v h'=>
  rw [hd] at hp
  obtain ⟨m',φ',v',a1,a2,a3,a4,rfl⟩:=hp
  exact hK v h' hd m' φ' w' v' a1 a2 a3 a4
 |panic v h'=>
  rw [hd] at hp
  obtain ⟨m',φ',v',a1,a2,a3,a4,rfl⟩:=hp
  exact hQ v h' hd m' φ' w' v' a1 a2 a3 a4
theorem PS {o:Oper} {f:FuncId} {xs:Array Operand} {tys:Array TypeId} {xs':List Od} (ho:o.op= .call {callee:= .value (.func f),args:=xs,argTypes:=tys}) (hx:xs.toList.mapM (odOf keep)=some xs'):xC P keep o (.call f xs'):=by
 intro O D hD w0 w m φ hp nt e t a hs hf hb K Q hK hQ
 refine DR hD hs hb (wO hf hx) (fun hc=> ?_) K Q hK hQ
 have e1:(xs.toList.map a.eval).toArray=xs.map a.eval:=by rw [<-List.map_toArray]
 simp [execOp,ho,resolve,Act.eval,Deferred.ofValue,invoke,kW hc]
 exact e1.symm
theorem PT {o:Oper} {fv:Operand} {fv':Od} {xs:Array Operand} {tys:Array TypeId} {xs':List Od} (ho:o.op= .call {callee:= .value fv,args:=xs,argTypes:=tys}) (hf':odOf keep fv=some fv') (hx:xs.toList.mapM (odOf keep)=some xs'):xC P keep o (.qO fv' xs'):=by
 intro O D hD w0 w m φ hp nt e t a hs hf hb K Q hK hQ
 have h1:=hf.od hf'
 simp only [Op1.run] at hb hK hQ
 generalize fv'.ev e t=fa at*
 cases fa<;>simp only [] at hb hK hQ<;>first|(exact absurd rfl hb)|skip
 ·rename_i f cs
  simp only [VR] at h1
  obtain ⟨cs',h1,h2⟩:=h1
  refine DR hD hs hb ((wO hf hx).append h2) (fun hc=> ?_) K Q hK hQ
  simp [execOp,ho,resolve,h1,Deferred.ofValue,invoke,kW hc]
 ·rename_i f fs
  simp only [VR] at h1
  obtain ⟨fs',h1,h2⟩:=h1
  refine DR hD hs hb (h2.append (wO hf hx)) (fun hc=> ?_) K Q hK hQ
  simp [execOp,ho,resolve,h1,Deferred.ofValue,invoke,kW hc]
theorem Vr {o:Oper} {x:Operand} {x':Od} (ho:o.op= .panic x\/∃tys,o.op= .call {callee:= .builtin .panic,args:= #[x],argTypes:=tys}) (hx:odOf keep x=some x'):xC P keep o (.pan x'):=by
 intro O D hD w0 w m φ hp nt e t a hs hf hb K Q hK hQ
 have h1:=hf.od hx
 simp only [Op1.run] at hb hK hQ
 generalize x'.ev e t=xa at*
 cases xa<;>simp only [] at hb hK hQ<;>first|(exact absurd rfl hb)|skip
 rename_i ty v
 have hv:=h1
 simp only [VR] at h1
 obtain ⟨v',h1,h2⟩:=h1
 have hr:(execOp a.eval o).run P w= .halt (.panic (.iface ty v')) w:=by
  rcases ho with ho|⟨tys,ho⟩
  ·simp [execOp,ho,h1,Instr.panic]
  ·simp [execOp,ho,h1,Instr.panic,resolve,invoke,builtin]
 unfold Oper.wp
 rw [hr,Oper.upon_panic]
 rw [h1] at hv
 exact hQ _ hp rfl m φ w _ (fun _ _=>rfl) (Nat.le_refl _) hs hv
structure YN (P:Program) (keep:List Nat) (nt:Nat) (ops:Array Oper) (o:Oper) (s:St1):Prop where
 ok:∃g p,s= .mk g (dsOf keep o.dst) p/\xC P keep o p/\(∀n,o.dst=some n->n < nt)/\
  ((o.guard=none/\g=none)\/∃j want d od,o.guard=some (j,want)/\g=some (od,want)/\(ops[j]?).bind (·.dst)=some d/\odOf keep (.tmp d)=some od)
inductive Nv (P:Program) (keep:List Nat) (nt:Nat) (ops:Array Oper):List Oper->List St1->Prop where
 |nil:Nv P keep nt ops [] []
 |cons {o s l r}:YN P keep nt ops o s->Nv P keep nt ops l r->Nv P keep nt ops (o::l) (s::r)
theorem yP {m:Mu} {e:En} {t:List AV} {a:Act} (f:FR m keep nt e t a) {ops:Array Oper} {j d:Nat} {od:Od} (h1:(ops[j]?).bind (·.dst)=some d) (h2:odOf keep (.tmp d)=some od) {b:Bool} (hb:od.ev e t= .bool b):yielded ops a.tmps j=some b:=by
 have h3:=f.od h2
 rw [hb] at h3
 simp only [VR,Act.eval] at h3
 unfold yielded
 rw [h1]
 simp only [Option.bind_some]
 rw [Array.getD_eq_getD_getElem?] at h3
 cases ht:a.tmps[d]? with
 |none=>rw [ht] at h3;simp [undef] at h3
 |some v=>rw [ht] at h3;simp at h3;subst h3;rfl
theorem DT (m:Mu):VR m (.tup []) undef:=⟨[],rfl,rfl⟩
theorem Bd {m:Mu} {e:En} {t:List AV} {a:Act} (f:FR m keep nt e t a) {ops:Array Oper} {j d:Nat} {od:Od} (h1:(ops[j]?).bind (·.dst)=some d) (h2:odOf keep (.tmp d)=some od) {l:List AV} (hb:od.ev e t= .tup l):yielded ops a.tmps j=none:=by
 have h3:=f.od h2
 rw [hb] at h3
 simp only [VR,Act.eval] at h3
 obtain ⟨vs,h3,_⟩:=h3
 unfold yielded
 rw [h1]
 simp only [Option.bind_some]
 rw [Array.getD_eq_getD_getElem?] at h3
 cases ht:a.tmps[d]? with
 |none=>rfl
 |some v=>rw [ht] at h3;simp at h3;subst h3;rfl
theorem aag {ops:Array Oper} (hD:DS P O D) {l:List Oper} {r:List St1} (hr:Nv P keep nt ops l r):∀(e:En) (t:List AV) (h:Hp O.X) (a:Act) (w:World),ST O w0 keep nt ds m0 n0 e t h a w->runRg D r e t h≠ .bad->
  wpList P ops (QP O w0 keep nt ds m0 n0 (runRg D r e t h)) l a w:=by
 induction hr with
 |nil=>
  intro e t h a w hst hb
  refine wpList_nil ?_
  obtain ⟨m,φ,h1,h2,h3,h4,h5⟩:=hst
  exact ⟨rfl,m,φ,h1,h2,h3,h4.void,h5⟩
 | @cons o s l r hs hr ih=>
   intro e t h a w hst hb
   obtain ⟨g,p,rfl,hop,hdst,hg⟩:=hs.ok
   obtain ⟨m,φ,h1,h2,h3,h4,h5⟩:=hst
   refine wpList_step fun K hK=> ?_
   have skip:runRg D (.mk g (dsOf keep o.dst) p::r) e t h=runRg D r (putE (dsOf keep o.dst) (.tup []) e) (putT (dsOf keep o.dst) (.tup []) t) h->K (a.put o.dst undef) w:=fun heq=>by
    rw [heq] at hK hb
    refine hK _ _ (ih _ _ _ _ _ ⟨m,φ,h1,h2,h3,h4.put hdst (DT m), ?_⟩ hb)
    cases hd:o.dst<;>exact h5
   have go:runRg D (.mk g (dsOf keep o.dst) p::r) e t h=stepR (p.run D e t h) t (fun v h'=>runRg D r (putE (dsOf keep o.dst) v e) (putT (dsOf keep o.dst) v t) h')->o.wp P a w K (QP O w0 keep nt ds m0 n0 (runRg D (.mk g (dsOf keep o.dst) p::r) e t h)):=fun heq=>by
    rw [heq] at hK hb ⊢
    have hpb:p.run D e t h≠ .bad:=fun e=>by rw [e] at hb;exact hb rfl
    refine hop hD h3 h4 hpb K _ (fun v h' hv m' φ' w' v' g1 g2 g3 g4=> ?_) (fun v h' hv m' φ' w' v' g1 g2 g3 g4=> ?_)
    ·rw [hv] at hK hb
     refine hK _ _ (ih _ _ _ _ _ ⟨m',φ',fun g hg=>by rw [g1 g (by omega),h1 g hg],by omega,g3,(h4.ext (qN h3 g1)).put hdst g4, ?_⟩ hb)
     cases hd:o.dst<;>exact h5
    ·rw [hv]
     exact ⟨v',m',φ',rfl,g4,fun g hg=>by rw [g1 g (by omega),h1 g hg],by omega,g3,(h4.ext (qN h3 g1)).void,h5⟩
   rcases hg with ⟨hg,rfl⟩|⟨j,want,d,od,hg,rfl,hj,hod⟩
   ·rw [if_pos (by simp [Region.wanted,hg])]
    exact go (by simp only [runRg,gdv,gdR])
   ·cases Nw:od.ev e t with
    |bool b=>
     have hy:=yP h4 hj hod Nw
     cases hbw:(b==want) with
     |true=>
      rw [if_pos (by simp only [Region.wanted,hg,hy];simpa using hbw)]
      exact go (by simp only [runRg,gdv,Nw,hbw,gdR])
     |false=>
      rw [if_neg (by simp only [Region.wanted,hg,hy];simpa using hbw)]
      exact skip (by simp only [runRg,gdv,Nw,hbw,gdR])
    |tup l=>
     have hy:=Bd h4 hj hod Nw
     rw [if_neg (by simp only [Region.wanted,hg,hy];simp)]
     exact skip (by simp only [runRg,gdv,Nw,gdR])
    |_=>exact absurd (by simp only [runRg,gdv,Nw,gdR]) hb
end
variable {P:Program}
abbrev Dr:=List (St1×List Nat)
inductive BC where
 |skip
 |reg (r:List St1)
 |iC (r:Dr)
 |seq (a b:BC)
 |cond (x:Od) (a b:BC)
 |block (id:Nat) (b:BC)
 |loop (b:BC)
 |exit (id:Nat)
 |ret
def seqR {X:Type} (x:R X) (k:List AV->Hp X->R X):R X:=match x with| .norm t h=>k t h| .brk n t h=> .brk n t h| .ret t h=> .ret t h| .panic v t h=> .panic v t h| .bad=> .bad
def gK {X:Type} (id:Nat) (x:R X):R X:=match x with| .norm t h=> .norm t h| .brk n t h=>bif Nat.beq n id then .norm t h else .brk n t h| .ret t h=> .ret t h| .panic v t h=> .panic v t h| .bad=> .bad
def F6 {X:Type} (v:AV) (a b:R X):R X:=match v with| .bool c=>bif c then a else b|_=> .bad
noncomputable def eX {X:Type} (f:List AV->Hp X->R X) (n:Nat):List AV->Hp X->R X:=
 Nat.rec (motive:=fun _=>List AV->Hp X->R X) (fun _ _=> .bad) (fun _ ih t h=>seqR (f t h) ih) n
noncomputable def BC.run {X:Type} (D:Dp X) (dr:Dr->List AV->Hp X->R X) (N:Nat) (b:BC):List AV->Hp X->R X:=
 BC.rec (motive:=fun _=>List AV->Hp X->R X) (fun t h=> .norm t h) (fun r t h=>runRg D r [] t h) (fun r t h=>dr r t h) (fun _ _ fa fb t h=>seqR (fa t h) fb) (fun x _ _ fa fb t h=>F6 (x.ev [] t) (fa t h) (fb t h))
  (fun id _ f t h=>gK id (f t h)) (fun _ f t h=>eX f N t h) (fun id t h=> .brk id t h) (fun t h=> .ret t h) b
section
variable {O:dH} {w0:World} {keep:List Nat} {nt:Nat} {ds:List Deferred} {m0:Mu} {n0:Nat}
def Vs (P:Program) (keep:List Nat) (nt:Nat) (dr:∀{X:Type},Dp X->Dr->List AV->Hp X->R X) (c:Code) (r:Dr):Prop:=
 ∀{O:dH} {D:Dp O.X},DS P O D->∀{w0:World} {ds:List Deferred} {m0:Mu} {n0:Nat} (t:List AV) (h:Hp O.X),dr D r t h≠ .bad->∀(a:Act) (w:World),ST O w0 keep nt ds m0 n0 [] t h a w->c.wp P (QP O w0 keep nt ds m0 n0 (dr D r t h)) a w
def CS (P:Program) (keep:List Nat) (nt:Nat) (dr:∀{X:Type},Dp X->Dr->List AV->Hp X->R X) (c:Code) (b:BC):Prop:=
 ∀{O:dH} {D:Dp O.X},DS P O D->∀(N:Nat) {w0:World} {ds:List Deferred} {m0:Mu} {n0:Nat} (t:List AV) (h:Hp O.X),b.run D (dr D) N t h≠ .bad->∀(a:Act) (w:World),ST O w0 keep nt ds m0 n0 [] t h a w->
  c.wp P (QP O w0 keep nt ds m0 n0 (b.run D (dr D) N t h)) a w
variable {dr:∀{X:Type},Dp X->Dr->List AV->Hp X->R X}
theorem Vt:CS P keep nt dr .skip .skip:=fun _ _ _ _ _ _ _ _ _ _ _ hst=>wp_skip ⟨rfl,hst⟩
theorem YO {id:Nat} {ops:Array Oper} {r:List St1} (hr:Nv P keep nt ops ops.toList r):CS P keep nt dr (.region id ops false) (.reg r):=
 fun hD _ _ _ _ _ t h hb a w hst=>wp_region_list (aag hD hr [] t h a w hst hb)
theorem Vu {c:Code} {r:Dr} (hr:Vs P keep nt dr c r):CS P keep nt dr c (.iC r):=
 fun hD _ _ _ _ _ t h hb a w hst=>hr hD t h hb a w hst
theorem Vw {id:Nat}:CS P keep nt dr (.exit id) (.exit id):=fun _ _ _ _ _ _ _ _ _ _ _ hst=>wp_exit ⟨rfl,hst⟩
theorem YP:CS P keep nt dr .ret .ret:=fun _ _ _ _ _ _ _ _ _ _ _ hst=>wp_ret ⟨rfl,hst⟩
theorem YQ {c d:Code} {a b:BC} (h1:CS P keep nt dr c a) (h2:CS P keep nt dr d b):CS P keep nt dr (.seq c d) (.seq a b):=by
 intro O D hD N w0 ds m0 n0 t h hb ac w hst
 have e:(BC.seq a b).run D (dr D) N t h=seqR (a.run D (dr D) N t h) (b.run D (dr D) N):=rfl
 rw [e] at hb ⊢
 have hx:=h1 hD N t h (fun e=>by rw [e] at hb;exact hb rfl) ac w hst
 refine wp_seq (wp_mono hx fun ex a' w' hq=> ?_)
 cases hr:a.run D (dr D) N t h with
 |norm t' h'=>
  rw [hr] at hq hb
  obtain ⟨rfl,hst'⟩:=hq
  exact h2 hD N t' h' hb a' w' hst'
 |brk k t' h'=>rw [hr] at hq;obtain ⟨rfl,hst'⟩:=hq;exact ⟨rfl,hst'⟩
 |ret t' h'=>rw [hr] at hq;obtain ⟨rfl,hst'⟩:=hq;exact ⟨rfl,hst'⟩
 |panic v t' h'=>rw [hr] at hq;obtain ⟨v',m,φ,rfl,r⟩:=hq;exact ⟨v',m,φ,rfl,r⟩
 |bad=>rw [hr] at hb;exact absurd rfl hb
theorem Vx {x:Operand} {x':Od} {c d:Code} {a b:BC} (hx:odOf keep x=some x') (h1:CS P keep nt dr c a) (h2:CS P keep nt dr d b):CS P keep nt dr (.cond x c d) (.cond x' a b):=by
 intro O D hD N w0 ds m0 n0 t h hb ac w hst
 have e:(BC.cond x' a b).run D (dr D) N t h=F6 (x'.ev [] t) (a.run D (dr D) N t h) (b.run D (dr D) N t h):=rfl
 rw [e] at hb ⊢
 obtain ⟨m,φ,g1,g2,g3,g4,g5⟩:=id hst
 have hv:=g4.od hx
 cases hxe:x'.ev [] t with
 |bool v=>
  rw [hxe] at hv hb
  simp only [VR] at hv
  cases v with
  |true=>exact wp_cond_true hv (h1 hD N t h hb ac w hst)
  |false=>exact wp_cond_false hv (h2 hD N t h hb ac w hst)
 |_=>rw [hxe] at hb;exact absurd rfl hb
theorem PU {id:Nat} {c:Code} {a:BC} (h1:CS P keep nt dr c a):CS P keep nt dr (.block id c) (.block id a):=by
 intro O D hD N w0 ds m0 n0 t h hb ac w hst
 have e:(BC.block id a).run D (dr D) N t h=gK id (a.run D (dr D) N t h):=rfl
 rw [e] at hb ⊢
 have hx:=h1 hD N t h (fun e=>by rw [e] at hb;exact hb rfl) ac w hst
 refine wp_block (wp_mono hx fun ex a' w' hq=> ?_)
 cases hr:a.run D (dr D) N t h with
 |norm t' h'=>rw [hr] at hq;obtain ⟨rfl,hst'⟩:=hq;exact ⟨rfl,hst'⟩
 |brk k t' h'=>
  rw [hr] at hq
  obtain ⟨rfl,hst'⟩:=hq
  show if k=id then QP O w0 keep nt ds m0 n0 (gK id (.brk k t' h')) .normal a' w' else QP O w0 keep nt ds m0 n0 (gK id (.brk k t' h')) (.exit k) a' w'
  by_cases hk:k=id
  ·rw [if_pos hk]
   simp only [gK,hk,Nat.beq_refl,cond_true]
   exact ⟨rfl,hst'⟩
  ·rw [if_neg hk]
   simp only [gK,tY hk,cond_false]
   exact ⟨rfl,hst'⟩
 |ret t' h'=>rw [hr] at hq;obtain ⟨rfl,hst'⟩:=hq;exact ⟨rfl,hst'⟩
 |panic v t' h'=>rw [hr] at hq;obtain ⟨v',m,φ,rfl,r⟩:=hq;exact ⟨v',m,φ,rfl,r⟩
 |bad=>rw [hr] at hb;exact absurd rfl hb
theorem Vy {c:Code} {a:BC} (h1:CS P keep nt dr c a):CS P keep nt dr (.loop c) (.loop a):=by
 intro O D hD N w0 ds m0 n0 t h hb ac w hst
 have e:(BC.loop a).run D (dr D) N t h=eX (a.run D (dr D) N) N t h:=rfl
 rw [e] at hb ⊢
 have key:∀n t h,eX (a.run D (dr D) N) n t h≠ .bad->∀ac w,ST O w0 keep nt ds m0 n0 [] t h ac w->Code.rounds P c (QP O w0 keep nt ds m0 n0 (eX (a.run D (dr D) N) n t h)) n ac w:=by
  intro n
  induction n with
  |zero=>intro t h hb;exact absurd rfl hb
  |succ n ih=>
   intro t h hb ac w hst
   have e:eX (a.run D (dr D) N) (n+1) t h=seqR (a.run D (dr D) N t h) (eX (a.run D (dr D) N) n):=rfl
   rw [e] at hb ⊢
   have hx:=h1 hD N t h (fun e=>by rw [e] at hb;exact hb rfl) ac w hst
   rw [rounds_succ]
   refine wp_mono hx fun ex a' w' hq=> ?_
   cases hr:a.run D (dr D) N t h with
   |norm t' h'=>
    rw [hr] at hq hb
    obtain ⟨rfl,hst'⟩:=hq
    exact ih t' h' hb a' w' hst'
   |brk k t' h'=>rw [hr] at hq;obtain ⟨rfl,hst'⟩:=hq;exact ⟨rfl,hst'⟩
   |ret t' h'=>rw [hr] at hq;obtain ⟨rfl,hst'⟩:=hq;exact ⟨rfl,hst'⟩
   |panic v t' h'=>rw [hr] at hq;obtain ⟨v',m,φ,rfl,r⟩:=hq;exact ⟨v',m,φ,rfl,r⟩
   |bad=>rw [hr] at hb;exact absurd rfl hb
 exact wp_loop_rounds N (key N t h hb ac w hst)
end
def rsem (tmps:Array Value):ResultVar->Sem Value
 | .tmp t=>pure (tmps.getD t undef)
 | .cell x t=>do loadVar t (<-asAddr (tmps.getD x undef))
theorem IZ (fn:Func) (tmps:Array Value):results fn tmps=(do let vs<-fn.results.mapM (rsem tmps);pure (if h:vs.size=1 then vs[0] else .tuple vs)):=by
 unfold results
 congr 2
inductive Rs where
 |slot (x:Od)
 |cell1 (x:Od)
 |fG (n:Nat) (x:Od)
noncomputable def Rs.ev {X:Type} (r:Rs) (t:List AV) (h:Hp X):Option AV:=
 match r with
 | .slot x=>some (x.ev [] t)
 | .cell1 x=>(Mv.ld1 x).ev [] t h
 | .fG n x=>(Mv.ldn n x).ev [] t h
noncomputable def resV {X:Type} (t:List AV) (h:Hp X):List Rs->Option (List AV)
 |[]=>some []
 |r::l=>match r.ev t h with|some v=>(match resV t h l with|some b=>some (v::b)|none=>none)|none=>none
def packA (l:List AV):AV:=match l with|[v]=>v|l=> .tup l
structure BF where
 nt:Nat
 keep:List Nat
 body:BC
 res:List Rs
noncomputable def finR {X:Type} (rs:List Rs) (x:R X):gp X:=
 match x with
 | .norm t h=>(match resV t h rs with|some l=> .ret (packA l) h|none=> .bad)
 | .ret t h=>(match resV t h rs with|some l=> .ret (packA l) h|none=> .bad)
 | .panic v _ h=> .panic v h
 |_=> .bad
noncomputable def BF.run {X:Type} (dr:Dp X->Dr->List AV->Hp X->R X) (N:Nat) (f:BF) (D:Dp X) (args:List AV) (h:Hp X):gp X:=
 bif Nat.ble args.length f.nt then finR f.res (f.body.run D (dr D) N (f.keep.map fun d=>getS args d) h) else .bad
section
variable {O:dH} {w0:World} {keep:List Nat} {nt:Nat}
theorem yQ {w:World} {m:Mu} {φ:Ph} {h:Hp O.X} (hs:SR O w0 w m φ h) {ty:TypeId} {g off:Nat} {p:Pl} (hp:m g=some p) {v:AV}
  (hk:(∃u,P.underlying ty=some u/\((∀x,u≠ .struct x)/\∀n e,u≠ .array n e)/\∃l,rowOf h g=some l/\getN l off=some v)\/
   (∃i,((∃x,P.underlying ty=some (.struct x))\/∃n e,P.underlying ty=some (.array n e))/\P.info? ty=some i/\∃l r,rowOf h g=some l/\takeN i.size off l=some r/\v= .agg r)):
  ∃v',VR m v v'/\(loadVar ty ⟨p.b,p.s+off,none⟩).run P w= .ok v' w:=by
 rcases hk with ⟨u,hu,hna,l,hr,hv⟩|⟨i,hty,hi,l,r,hr,ht,rfl⟩
 ·rw [sF] at hv
  obtain ⟨hrow,_⟩:=hs.row hp (fJ hr)
  obtain ⟨v',h3,h4,_⟩:=hrow _ _ hv
  refine ⟨v',h4, ?_⟩
  have hagg:(isAgg ty).run P w= .ok false w:=by
   unfold isAgg
   simp only [Sem.run_bind,run_underlying hu,Result.andThen_ok]
   cases u<;>first|rfl|exact absurd rfl (hna.1 _)|exact absurd rfl (hna.2 _ _)
  have h3':(load ⟨p.b,p.s+off,none⟩).run P w= .ok v' w:=ug h3
  unfold loadVar
  simp only [Sem.run_bind,Result.andThen_ok,hagg,Bool.false_eq_true,if_false]
  exact h3'
 ·obtain ⟨hrow,_⟩:=hs.row hp (fJ hr)
  obtain ⟨vs,k1,k2,k3,_⟩:=qM hrow ht
  refine ⟨.agg vs.toArray,⟨vs,rfl,k1⟩, ?_⟩
  have hagg:(isAgg ty).run P w= .ok true w:=by
   unfold isAgg
   rcases hty with ⟨_,hty⟩|⟨_,_,hty⟩<;>simp [run_underlying hty]
  have hload:=run_loadCells_list (P:=P) w ⟨p.b,p.s+off,none⟩ vs (fun j u hj=>by rw [je,Nat.add_assoc];exact k3 j u hj)
  rw [k2] at hload
  unfold loadVar
  simp only [Sem.run_bind,Result.andThen_ok,hagg,if_true]
  simp [sizeOf,typeInfo,hi,hload]
inductive Ny (P:Program) (keep:List Nat):ResultVar->Rs->Prop where
 |slot {n x}:odOf keep (.tmp n)=some x->Ny P keep (.tmp n) (.slot x)
 |cell1 {n x ty u}:odOf keep (.tmp n)=some x->P.underlying ty=some u->((∀x,u≠ .struct x)/\∀n e,u≠ .array n e)->Ny P keep (.cell n ty) (.cell1 x)
 |fG {n x ty i}:odOf keep (.tmp n)=some x->((∃x,P.underlying ty=some (.struct x))\/∃n e,P.underlying ty=some (.array n e))->P.info? ty=some i->Ny P keep (.cell n ty) (.fG i.size x)
theorem aah {w:World} {m:Mu} {φ:Ph} {h:Hp O.X} {e:En} {t:List AV} {a:Act} (hs:SR O w0 w m φ h) (f:FR m keep nt [] t a) {rv:ResultVar} {r:Rs} (hr:Ny P keep rv r) {v:AV} (hv:r.ev t h=some v):
  ∃v',VR m v v'/\(rsem a.tmps rv).run P w= .ok v' w:=by
 cases hr with
 |slot hx=>cases hv;exact ⟨_,f.od hx,rfl⟩
 | @cell1 n x ty u hx hu hna=>
  obtain ⟨g,off,hb,hv⟩:=AV.jC hv
  have h1:=f.od hx
  rw [hb] at h1
  simp only [VR] at h1
  obtain ⟨p,hp,h1⟩:=h1
  cases hr:rowOf h g with
  |none=>rw [hr] at hv;cases hv
  |some l=>
   rw [hr] at hv
   obtain ⟨v',k1,k2⟩:=yQ (P:=P) hs hp (.inl ⟨u,hu,hna,l,hr,hv⟩)
   refine ⟨v',k1, ?_⟩
   have h1:a.tmps.getD n undef= .pointer (some ⟨p.b,p.s+off,none⟩):=h1
   simp only [rsem,h1,asAddr,Sem.run_bind,Sem.run_pure,Result.andThen_ok]
   exact k2
 | @fG n x ty i hx hty hi=>
  obtain ⟨g,off,hb,hv⟩:=AV.jC hv
  have h1:=f.od hx
  rw [hb] at h1
  simp only [VR] at h1
  obtain ⟨p,hp,h1⟩:=h1
  cases hr:rowOf h g with
  |none=>rw [hr] at hv;cases hv
  |some l=>
   rw [hr] at hv
   simp only at hv
   cases ht:takeN i.size off l with
   |none=>rw [ht] at hv;cases hv
   |some r=>
    rw [ht] at hv
    cases hv
    obtain ⟨v',k1,k2⟩:=yQ (P:=P) hs hp (.inr ⟨i,hty,hi,l,r,hr,ht,rfl⟩)
    refine ⟨v',k1, ?_⟩
    have h1:a.tmps.getD n undef= .pointer (some ⟨p.b,p.s+off,none⟩):=h1
    simp only [rsem,h1,asAddr,Sem.run_bind,Sem.run_pure,Result.andThen_ok]
    exact k2
inductive vg (P:Program) (keep:List Nat):List ResultVar->List Rs->Prop where
 |nil:vg P keep [] []
 |cons {x r l s}:Ny P keep x r->vg P keep l s->vg P keep (x::l) (r::s)
theorem PV {w:World} {m:Mu} {φ:Ph} {h:Hp O.X} {t:List AV} {a:Act} (hs:SR O w0 w m φ h) (f:FR m keep nt [] t a):∀{l:List ResultVar} {s:List Rs},vg P keep l s->∀{vs:List AV},resV t h s=some vs->
  ∃vs',VRs m vs vs'/\(l.mapM (rsem a.tmps)).run P w= .ok vs' w
 |[],[],_,vs,hv=>by cases hv;exact ⟨[],by simp [VRs],by simp⟩
 |x::l,r::s,hr,vs,hv=>by
  cases hr with
  |cons h1 h2=>
   simp only [resV] at hv
   cases he:r.ev t h with
   |none=>rw [he] at hv;cases hv
   |some v=>
    rw [he] at hv
    simp only at hv
    cases hl:resV t h s with
    |none=>rw [hl] at hv;cases hv
    |some b=>
     rw [hl] at hv
     cases hv
     obtain ⟨v',k1,k2⟩:=aah (e:=[]) hs f h1 he
     obtain ⟨vs',k3,k4⟩:=PV hs f h2 hl
     refine ⟨v'::vs',by simp only [VRs];exact ⟨v',vs',rfl,k1,k3⟩, ?_⟩
     rw [List.mapM_cons]
     simp only [Sem.run_bind,Sem.run_pure]
     rw [k2]
     simp only [Result.andThen_ok]
     rw [k4]
     rfl
theorem uy {w:World} {m:Mu} {φ:Ph} {h:Hp O.X} {t:List AV} {a:Act} (hs:SR O w0 w m φ h) (f:FR m keep nt [] t a) {fn:Func} {s:List Rs} (hr:vg P keep fn.results.toList s) {vs:List AV} (hv:resV t h s=some vs):
  ∃v',VR m (packA vs) v'/\(results fn a.tmps).run P w= .ok v' w:=by
 obtain ⟨vs',k1,k2⟩:=PV hs f hr hv
 have hm:(fn.results.mapM (rsem a.tmps)).run P w= .ok vs'.toArray w:=by
  rw [Array.mapM_eq_mapM_toList,Sem.run_map,k2]
  rfl
 have hlen:=k1.len
 rw [IZ,Sem.run_bind,hm]
 simp only [Result.andThen_ok,Sem.run_pure]
 match vs,vs',k1,hlen with
 |[],[],k1,_=>exact ⟨.tuple #[],by simp only [packA,VR];exact ⟨[],rfl,k1⟩,by simp⟩
 |[v],[v'],k1,_=>
  simp only [VRs] at k1
  obtain ⟨a1,b1,e1,e2,e3⟩:=k1
  cases e1
  exact ⟨v',e2,by simp⟩
 |v::v2::r,l,k1,hlen=>
  refine ⟨.tuple l.toArray,by simp only [packA,VR];exact ⟨l,rfl,k1⟩, ?_⟩
  rw [dif_neg (by simp [hlen])]
end
abbrev Fn (X:Type):=Dp X->List AV->Hp X->gp X
def jD (P:Program) (O:dH) (f:Nat) (F:Fn O.X):Prop:=
 callable P f=true/\∀{D:Dp O.X},DS P O D->∀args h,F D args h≠ .bad->∀{w0 w:World} {m:Mu} {φ:Ph} {args':List Value},SR O w0 w m φ h->VRs m args args'->Calls P f args'.toArray w (iy O w0 m h (F D args h))
def Be {X:Type} (o:Option (Fn X)) (D:Dp X) (args:List AV) (h:Hp X):gp X:=match o with|some F=>F D args h|none=> .bad
theorem Vz {O:dH} {dr:∀{X:Type},Dp X->Dr->List AV->Hp X->R X} {f:Nat} {fn:Func} {c:Code} {b:BF} (N:Nat) (hc:callable P f=true) (hf:P.funcs[f]?=some fn) (hb:fn.body=some c) (hnt:fn.ntmps=b.nt) (hnd:b.keep.Nodup)
  (hlt:∀d∈b.keep,d < b.nt) (hcs:CS P b.keep b.nt dr c b.body) (hrs:vg P b.keep fn.results.toList b.res):jD P O f (fun D args h=>b.run dr N D args h):=by
 refine ⟨hc,fun {D} hD args h hbad {w0 w m φ args'} hs hv=> ?_⟩
 have bD:(bif Nat.ble args.length b.nt then finR b.res (b.body.run D (dr D) N (b.keep.map fun d=>getS args d) h) else .bad)≠ .bad:=hbad
 show Calls P f args'.toArray w (iy O w0 m h (bif Nat.ble args.length b.nt then finR b.res (b.body.run D (dr D) N (b.keep.map fun d=>getS args d) h) else .bad))
 cases hle:Nat.ble args.length b.nt with
 |false=>rw [hle] at bD;exact absurd rfl bD
 |true=>
  rw [hle] at bD
  simp only [cond_true] at bD ⊢
  have hle:=Nat.le_of_ble_eq_true hle
  have hlen:=hv.len
  have hrb:b.body.run D (dr D) N (b.keep.map fun d=>getS args d) h≠ .bad:=fun e=>by rw [e] at bD;exact bD rfl
  refine calls_of_wp hf hb ?_
  have hfr:FR m b.keep b.nt [] (b.keep.map fun d=>getS args d) {tmps:=args'.toArray++Array.replicate (fn.ntmps - args'.toArray.size) undef,defers:=[]}:=by
   refine ⟨by rw [hnt];simp;omega,by simp,hnd,fun d _=>by simp [lookE,VR],fun i d hi=> ?_⟩
   have hg:getS (b.keep.map fun d=>getS args d) i=getS args d:=by
    have:∀(l:List Nat) (i:Nat),l[i]?=some d->getS (l.map fun d=>getS args d) i=getS args d:=by
     intro l
     induction l with
     |nil=>intro i h;simp at h
     |cons x l ih=>
      intro i h
      cases i with
      |zero=>simp at h;subst h;rfl
      |succ i=>simp at h;exact ih i h
    exact this _ _ hi
   rw [hg]
   have hgs:∀(l:List AV) (d:Nat),getS l d=(l[d]?).getD .bot:=by
    intro l
    induction l with
    |nil=>intro d;cases d<;>rfl
    |cons x l ih=>intro d;cases d with|zero=>rfl|succ d=>simpa [getS] using ih d
   rw [hgs]
   cases hd:args[d]? with
   |none=>simp [VR]
   |some v=>
    obtain ⟨v',k1,k2⟩:=hv.get hd
    have hdl:d < args'.length:=(List.getElem?_eq_some_iff.1 k1).1
    rw [Array.getD_eq_getD_getElem?,Array.getElem?_append_left (by simpa using hdl)]
    simpa [k1] using k2
  have hst:ST O w0 b.keep b.nt [] m h.n [] (b.keep.map fun d=>getS args d) h {tmps:=args'.toArray++Array.replicate (fn.ntmps - args'.toArray.size) undef,defers:=[]} w:=⟨m,φ,fun _ _=>rfl,Nat.le_refl _,hs,hfr,rfl⟩
  refine wp_mono (hcs hD N _ h hrb _ w hst) fun ex a' w' hq=> ?_
  have fin:∀t' h',(∀l,resV t' h' b.res=some l->ST O w0 b.keep b.nt [] m h.n [] t' h' a' w'->a'.defers=[]/\∃v,(results fn a'.tmps).run P w'= .ok v w'/\iy O w0 m h (.ret (packA l) h') (.returned v) w'):=by
   intro t' h' l hl ⟨m',φ',g1,g2,g3,g4,g5⟩
   obtain ⟨v',k1,k2⟩:=uy g3 g4 hrs hl
   exact ⟨g5,v',k2,m',φ',v',g1,g2,g3,k1,rfl⟩
  cases hr:b.body.run D (dr D) N (b.keep.map fun d=>getS args d) h with
  |norm t' h'=>
   rw [hr] at hq bD
   obtain ⟨rfl,hst'⟩:=hq
   simp only [finR] at bD ⊢
   cases hl:resV t' h' b.res with
   |none=>rw [hl] at bD;exact absurd rfl bD
   |some l=>exact fin t' h' l hl hst'
  |ret t' h'=>
   rw [hr] at hq bD
   obtain ⟨rfl,hst'⟩:=hq
   simp only [finR] at bD ⊢
   cases hl:resV t' h' b.res with
   |none=>rw [hl] at bD;exact absurd rfl bD
   |some l=>exact fin t' h' l hl hst'
  |brk k t' h'=>rw [hr] at bD;exact absurd rfl bD
  |panic v t' h'=>
   rw [hr] at hq
   obtain ⟨v',m',φ',rfl,k1,k2,k3,k4,_,k5⟩:=hq
   exact ⟨k5,m',φ',v',k2,k3,k4,k1,rfl⟩
  |bad=>exact absurd hr hrb
variable {P:Program}
def yR (u:TypeDesc):Bool:=match u with| .struct _=>true| .array _ _=>true|_=>false
theorem uz {u:TypeDesc} (h:yR u=false):(∀x,u≠ .struct x)/\∀n e,u≠ .array n e:=⟨(fun x e=>by subst e;cases h),(fun n x e=>by subst e;cases h)⟩
theorem wQ {t:TypeId} {u:TypeDesc} (hu:P.underlying t=some u) (h:yR u=true):(∃x,P.underlying t=some (.struct x))\/∃n e,P.underlying t=some (.array n e):=by
 cases u<;>first|(cases h;done)|(exact .inl ⟨_,hu⟩)|(exact .inr ⟨_,_,hu⟩)
def isU8 (P:Program) (t:TypeId):Bool:=match P.underlying t with|some (.int .u8)=>true|_=>false
theorem DU {t:TypeId} (h:isU8 P t=true):P.underlying t=some (.int .u8):=by
 unfold isU8 at h;split at h<;>first|assumption|cases h
def isIface (u:TypeDesc):Bool:=match u with| .interface _=>true|_=>false
def elemOf (P:Program) (t:TypeId):Option (Nat×Nat×List AV):=
 match P.info? t with
 |some i=>match i.zero with
  |some z=>match avOfs z.cells.toList with
   |some l=>if z.cells.size=i.size/\0 < i.size then some (i.size,i.bytes,l) else none
   |none=>none
  |none=>none
 |none=>none
theorem nM {t:TypeId} {s b:Nat} {l:List AV} (h:elemOf P t=some (s,b,l)):∃i z,P.info? t=some i/\i.zero=some z/\avOfs z.cells.toList=some l/\z.cells.size=i.size/\0 < i.size/\i.size=s/\i.bytes=b:=by
 unfold elemOf at h
 cases hi:P.info? t with
 |none=>rw [hi] at h;cases h
 |some i=>
  rw [hi] at h
  simp only at h
  cases hz:i.zero with
  |none=>rw [hz] at h;cases h
  |some z=>
   rw [hz] at h
   simp only at h
   cases hl:avOfs z.cells.toList with
   |none=>rw [hl] at h;cases h
   |some l'=>
    rw [hl] at h
    simp only at h
    split at h
    ·rename_i hc
     cases h
     exact ⟨i,z,rfl,hz,hl,hc.1,hc.2,rfl,rfl⟩
    ·cases h
def convOf (P:Program) (keep:List Nat) (s d:TypeId) (x:Operand):Option Op1:=
 match odOf keep x,P.underlying s,P.underlying d with
 |some a,some .string,some .string=>some (.mov (.sls a none none))
 |some a,some .string,some (.slice el)=>if isU8 P el then some (.eff (.s2b a)) else none
 |some a,some (.slice el),some .string=>if isU8 P el then some (.mov (.b2s a)) else none
 |some a,some (.slice el),some (.slice _)=>if s=d then (if isU8 P el then some (.eff (.mark a)) else none) else none
 |some a,some (.int _),some .string=>some (.mov (.i2s a))
 |some a,some _,some (.int k)=>some (.mov (.conv k a))
 |_,_,_=>none
def fieldOf (P:Program) (keep:List Nat) (ty:TypeId) (x:Operand) (f:Nat):Option Op1:=
 match odOf keep x,P.underlying ty with
 |some a,some (.struct fs)=>match fs[f]? with
  |some fd=>match P.underlying fd.type,P.info? fd.type with
   |some u,some i=>if yR u then some (.mov (.U2 fd.offset i.size a)) else some (.mov (.U1 fd.offset a))
   |_,_=>none
  |none=>none
 |_,_=>none
def yu (P:Program) (keep:List Nat) (ty:TypeId) (x:Operand) (f:Nat):Option Op1:=
 match odOf keep x,P.underlying ty with
 |some a,some (.struct fs)=>match fs[f]? with
  |some fd=>match P.info? fd.type with
   |some i=>if i.size=0 then none else some (.mov (.aG fd.offset a))
   |none=>none
  |none=>none
 |_,_=>none
def sliceOf (P:Program) (keep:List Nat) (ty:TypeId) (x:Operand) (lo hi mx:Option Operand):Option Op1:=
 match odOf keep x,oodOf keep lo,oodOf keep hi,oodOf keep mx,P.underlying ty with
 |some a,some l,some h,some m,some (.slice el)=>match P.info? el with
  |some i=>some (.mov (.sl i.size a l h m))
  |none=>none
 |some a,some l,some h,_,some .string=>match mx with|none=>some (.mov (.sls a l h))|some _=>none
 |_,_,_,_,_=>none
def loadOf (P:Program) (keep:List Nat) (ty:TypeId) (x:Operand):Option Op1:=
 match odOf keep x,P.underlying ty,P.info? ty with
 |some a,some u,some i=>if yR u then some (.mov (.ldn i.size a)) else some (.mov (.ld1 a))
 |_,_,_=>none
def buildOf (P:Program) (keep:List Nat) (ty:TypeId) (parts:Array (Nat×Operand)):Option Op1:=
 match P.underlying ty,P.info? ty with
 |some (.struct fs),some i=>match i.zero with
  |some z=>match avOfs z.cells.toList,partsOf (placesOf P fs) keep parts.toList with
   |some l,some ps=>if fs.toList.all (fun f=>(P.info? f.type).isSome) then some (.mov (.bld l ps)) else none
   |_,_=>none
  |none=>none
 |_,_=>none
def bsliceOf (P:Program) (keep:List Nat) (ty:TypeId) (len:Nat) (parts:Array (Nat×Operand)):Option Op1:=
 match P.underlying ty with
 |some (.slice el)=>match elemOf P el with
  |some (s,_,l)=>match partsOf (fun k=>some (k*s,s)) keep parts.toList with
   |some ps=>if len*s<=16777216 then some (.eff (.aF s len l ps)) else none
   |none=>none
  |none=>none
 |_=>none
def biLen (P:Program) (keep:List Nat) (args:List Operand) (tys:List TypeId):Option Op1:=
 match args,tys with
 |[x],[ty]=>(match odOf keep x,P.underlying ty with
  |some a,some (.slice _)=>some (.mov (.ah a))
  |some a,some .string=>some (.mov (.lens a))
  |_,_=>none)
 |_,_=>none
def biCap (P:Program) (keep:List Nat) (args:List Operand) (tys:List TypeId):Option Op1:=
 match args,tys with
 |[x],[ty]=>(match odOf keep x,P.underlying ty with
  |some a,some (.slice _)=>some (.mov (.DC a))
  |_,_=>none)
 |_,_=>none
def biMax (keep:List Nat) (mx:Bool) (args:List Operand):Option Op1:=
 match args with
 |[x,y]=>(match odOf keep x,odOf keep y with|some a,some b=>some (.mov (if mx then .FQ a b else .Nk a b))|_,_=>none)
 |_=>none
def biApp (P:Program) (keep:List Nat) (args:List Operand) (tys:List TypeId):Option Op1:=
 match args,tys with
 |[x,y],[ty,tn]=>(match odOf keep x,odOf keep y,P.underlying ty with
  |some a,some b,some (.slice el)=>(match elemOf P el with
   |some (s,by',l)=>if ty=tn then some (.eff (.append s by' a b)) else (match P.underlying tn with
    |some (.int _)=>some (.eff (.Aq s by' l a b))
    |some .string=>if s=1 then some (.eff (.apps by' a b)) else none
    |_=>none)
   |none=>none)
  |_,_,_=>none)
 |_,_=>none
def I4 (P:Program) (keep:List Nat) (args:List Operand) (tys:List TypeId):Option Op1:=
 match args,tys with
 |[x,y],[ty,_]=>(match odOf keep x,odOf keep y,P.underlying ty with
  |some a,some b,some (.slice el)=>(match P.info? el with|some i=>some (.eff (.copy i.size a b))|none=>none)
  |_,_,_=>none)
 |_,_=>none
def DV (P:Program) (keep:List Nat) (args:List Operand) (tys:List TypeId):Option Op1:=
 match args,tys with
 |[x],[ty]=>(match odOf keep x,P.underlying ty with
  |some a,some (.slice el)=>(match elemOf P el with|some (s,_,l)=>some (.eff (.clear s l a))|none=>none)
  |_,_=>none)
 |_,_=>none
def biPan (keep:List Nat) (args:List Operand):Option Op1:=
 match args with
 |[x]=>(match odOf keep x with|some a=>some (.pan a)|none=>none)
 |_=>none
def biOf (P:Program) (keep:List Nat) (b:Builtin) (args:List Operand) (tys:List TypeId):Option Op1:=
 match b with
 | .len=>biLen P keep args tys
 | .cap=>biCap P keep args tys
 | .max=>biMax keep true args
 | .min=>biMax keep false args
 | .append=>biApp P keep args tys
 | .copy=>I4 P keep args tys
 | .clear=>DV P keep args tys
 | .panic=>biPan keep args
 |_=>none
def callOf (P:Program) (keep:List Nat) (c:Call):Option Op1:=
 match c.callee with
 | .value (.func f)=>match c.args.toList.mapM (odOf keep) with|some xs=>some (.call f xs)|none=>none
 | .value x=>match odOf keep x,c.args.toList.mapM (odOf keep) with|some a,some xs=>some (.qO a xs)|_,_=>none
 | .invoke _ _=>none
 | .builtin b=>biOf P keep b c.args.toList c.argTypes.toList
def sqOf (P:Program) (op:BinOp) (ty:TypeId):Option (List Nat):=
 match P.underlying ty with
 |some (.struct _)=>if (op= .eql\/op= .neq)/\P.eqGuardType P.depth ty=false then stT P 4 ty else none
 |_=>none
def opOf (P:Program) (keep:List Nat) (o:Oper):Option Op1:=
 match o.op with
 | .move x=>(match odOf keep x with|some a=>some (.mov (.mv a))|none=>none)
 | .assign x=>(match odOf keep x with|some a=>some (.mov (.mv a))|none=>none)
 | .pick c x y=>(match odOf keep c,odOf keep x,odOf keep y with|some a,some b,some c=>some (.mov (.pick a b c))|_,_,_=>none)
 | .binOp op ty x y _=>(match odOf keep x,odOf keep y,sqOf P op ty with
  |some a,some b,some ks=>some (.mov (.seq (isNe op) ks a b))
  |some a,some b,none=>some (.mov (.bin op (eqOf P ty) a b))
  |_,_,_=>none)
 | .unOp .not _ x=>(match odOf keep x with|some a=>some (.mov (.jd a))|none=>none)
 | .unOp .neg _ x=>(match odOf keep x with|some a=>some (.mov (.neg a))|none=>none)
 | .convert s d x=>convOf P keep s d x
 | .nilCheck x=>(match odOf keep x with|some a=>some (.mov (.FP a))|none=>none)
 | .field ty x f=>fieldOf P keep ty x f
 | .extract x i=>(match odOf keep x with|some a=>some (.mov (.ext i a))|none=>none)
 | .fieldAddr ty x f=>yu P keep ty x f
 | .indexAddr ty x i=>(match odOf keep x,odOf keep i,P.underlying ty with
  |some a,some b,some (.slice el)=>(match P.info? el with|some j=>some (.mov (.aP j.size a b))|none=>none)
  |some a,some b,some (.array n el)=>(match P.info? el with|some j=>some (.mov (.U3 j.size n a b))|none=>none)
  |_,_,_=>none)
 | .index ty x i=>(match odOf keep x,odOf keep i,P.underlying ty with
  |some a,some b,some .string=>some (.mov (.idx a b))
  |_,_,_=>none)
 | .slice ty x lo hi mx=>sliceOf P keep ty x lo hi mx
 | .load ty x=>loadOf P keep ty x
 | .build ty parts=>buildOf P keep ty parts
 | .makeInterface ty x=>(match odOf keep x,P.underlying ty with
  |some a,some u=>if isIface u then none else some (.mov (.yL ty a))
  |_,_=>none)
 | .makeFunc (.func f) first cs=>if first.toList=[] then (match cs.toList.mapM (odOf keep) with|some xs=>some (.mov (.IP f xs))|none=>none) else if cs.toList=[] then (match first.toList.mapM (odOf keep) with|some xs=>some (.mov (.yM f xs))|none=>none) else none
 | .alloc ty=>(match P.info? ty with
  |some i=>(match i.zero with|some z=>(match avOfs z.cells.toList with|some l=>some (.eff (.alloc l))|none=>none)|none=>none)
  |none=>none)
 | .box _ x=>(match odOf keep x with|some a=>some (.eff (.box a))|none=>none)
 | .buildSlice ty len parts=>bsliceOf P keep ty len parts
 | .store ty a x=>(match odOf keep a,odOf keep x,P.info? ty with|some b,some c,some i=>some (.eff (.store i.size b c))|_,_,_=>none)
 | .makeSlice ty l c=>(match odOf keep l,odOf keep c,P.underlying ty with
  |some a,some b,some (.slice el)=>(match elemOf P el with|some (s,by',z)=>some (.eff (.yj s by' z a b))|none=>none)
  |_,_,_=>none)
 | .panic x=>(match odOf keep x with|some a=>some (.pan a)|none=>none)
 | .call c=>callOf P keep c
 |_=>none
structure OpX (P:Program) (keep:List Nat) (o:Oper) (p:Op1):Prop where
 all:xC P keep o p
 mov:∀m,p= .mov m->fV P keep o m
section
variable {keep:List Nat} {o:Oper}
theorem bG {m:Mv} (h:fV P keep o m):OpX P keep o (.mov m):=⟨Vp h,fun m' e=>by cases e;exact @h⟩
theorem iL {f:Ef} (h:uV P keep o f):OpX P keep o (.eff f):=⟨Vq h,fun m' e=>by cases e⟩
theorem PW {f:FuncId} {xs:Array Operand} {tys:Array TypeId} {xs':List Od} (ho:o.op= .call {callee:= .value (.func f),args:=xs,argTypes:=tys}) (hx:xs.toList.mapM (odOf keep)=some xs'):OpX P keep o (.call f xs'):=⟨PS ho hx,fun m' e=>by cases e⟩
theorem yS {fv:Operand} {fv':Od} {xs:Array Operand} {tys:Array TypeId} {xs':List Od} (ho:o.op= .call {callee:= .value fv,args:=xs,argTypes:=tys}) (hf':odOf keep fv=some fv') (hx:xs.toList.mapM (odOf keep)=some xs'):OpX P keep o (.qO fv' xs'):=⟨PT ho hf' hx,fun m' e=>by cases e⟩
theorem KU {x:Operand} {x':Od} (ho:o.op= .panic x\/∃tys,o.op= .call {callee:= .builtin .panic,args:= #[x],argTypes:=tys}) (hx:odOf keep x=some x'):OpX P keep o (.pan x'):=⟨Vr ho hx,fun m' e=>by cases e⟩
end
section
variable {keep:List Nat} {o:Oper} {p:Op1}
theorem VA {s d:TypeId} {x:Operand} (ho:o.op= .convert s d x) (h:convOf P keep s d x=some p):OpX P keep o p:=by
 unfold convOf at h
 split at h
 ·cases h;exact bG (Yw ho (by assumption) (by assumption) (by assumption))
 ·split at h
  ·cases h;exact iL (PR ho (by assumption) (by assumption) (DU (by assumption)) (by assumption))
  ·cases h
 ·split at h
  ·cases h;exact bG (Yx ho (by assumption) (DU (by assumption)) (by assumption) (by assumption))
  ·cases h
 ·rename_i hx hus hud
  split at h
  ·rename_i hsd
   split at h
   ·rename_i h8
    cases h
    subst hsd
    have q:OpX P keep o (.eff _):=iL (Nu ho hus (DU h8) hx)
    exact @q
   ·cases h
  ·cases h
 ·cases h;exact bG (Yv ho (by assumption) (by assumption) (by assumption))
 ·cases h;exact bG (U5 ho (by assumption) (by assumption) (by assumption))
 ·cases h
theorem PX {ty:TypeId} {x:Operand} {f:Nat} (ho:o.op= .field ty x f) (h:fieldOf P keep ty x f=some p):OpX P keep o p:=by
 unfold fieldOf at h
 split at h
 ·rename_i hx hu
  split at h
  ·rename_i fd hfd
   split at h
   ·rename_i hty hi
    split at h
    ·rename_i hag
     cases h;exact bG (U9 ho hu hfd (wQ hty hag) hi hx)
    ·rename_i hag
     cases h;exact bG (U8 ho hu hfd hty (uz (by simpa using hag)) hx)
   ·cases h
  ·cases h
 ·cases h
theorem PY {ty:TypeId} {x:Operand} {f:Nat} (ho:o.op= .fieldAddr ty x f) (h:yu P keep ty x f=some p):OpX P keep o p:=by
 unfold yu at h
 split at h
 ·split at h
  ·split at h
   ·split at h
    ·cases h
    ·cases h;exact bG (PL ho (by assumption) (by assumption) (by assumption) (by assumption) (by assumption))
   ·cases h
  ·cases h
 ·cases h
theorem PZ {ty:TypeId} {x:Operand} {lo hi mx:Option Operand} (ho:o.op= .slice ty x lo hi mx) (h:sliceOf P keep ty x lo hi mx=some p):OpX P keep o p:=by
 unfold sliceOf at h
 split at h
 ·split at h
  ·cases h;exact bG (ok_sl ho (by assumption) (by assumption) (by assumption) (by assumption) (by assumption) (by assumption))
  ·cases h
 ·split at h
  ·cases h;exact bG (YH ho (by assumption) (by assumption) (by assumption) (by assumption))
  ·cases h
 ·cases h
theorem VB {ty:TypeId} {x:Operand} (ho:o.op= .load ty x) (h:loadOf P keep ty x=some p):OpX P keep o p:=by
 unfold loadOf at h
 split at h
 ·rename_i hx hu hi
  split at h
  ·rename_i hag
   cases h;exact bG (YB ho (wQ hu hag) hi hx)
  ·rename_i hag
   cases h;exact bG (YA ho hu (uz (by simpa using hag)) hx)
 ·cases h
theorem P5 {ty:TypeId} {parts:Array (Nat×Operand)} (ho:o.op= .build ty parts) (h:buildOf P keep ty parts=some p):OpX P keep o p:=by
 unfold buildOf at h
 split at h
 ·split at h
  ·split at h
   ·split at h
    ·rename_i hall
     cases h
     exact bG (YM ho (by assumption) (by assumption) (by assumption) (by assumption) (fun f hf=>List.all_eq_true.1 hall f hf) (by assumption))
    ·cases h
   ·cases h
  ·cases h
 ·cases h
theorem Nz {ty:TypeId} {len:Nat} {parts:Array (Nat×Operand)} (ho:o.op= .buildSlice ty len parts) (h:bsliceOf P keep ty len parts=some p):OpX P keep o p:=by
 unfold bsliceOf at h
 split at h
 ·rename_i el hu
  split at h
  ·rename_i s b l he
   split at h
   ·rename_i ps hps
    split at h
    ·rename_i hle
     cases h
     obtain ⟨i,z,h1,h2,h3,h4,h5,rfl,rfl⟩:=nM he
     exact iL (F5 ho hu h1 h2 h4 h5 hle h3 hps)
    ·cases h
   ·cases h
  ·cases h
 ·cases h
theorem toList1 {α:Type} {a:Array α} {x:α} (h:a.toList=[x]):a= #[x]:=by apply Array.ext';simpa using h
theorem toList2 {α:Type} {a:Array α} {x y:α} (h:a.toList=[x,y]):a= #[x,y]:=by apply Array.ext';simpa using h
theorem aai {b:Builtin} {args:Array Operand} {tys:Array TypeId} (ho:o.op= .call {callee:= .builtin b,args:=args,argTypes:=tys}) (h:biOf P keep b args.toList tys.toList=some p):OpX P keep o p:=by
 cases b<;>simp only [biOf] at h<;>first|(cases h;done)|skip
 case len=>
  unfold biLen at h
  split at h
  ·rename_i hA hT
   have hA:=toList1 hA;have hT:=toList1 hT;subst hA;subst hT
   split at h
   ·cases h;have q:OpX P keep o (.mov _):=bG (YC ho (by assumption) (by assumption));exact @q
   ·cases h;have q:OpX P keep o (.mov _):=bG (Va ho (by assumption) (by assumption));exact @q
   ·cases h
  ·cases h
 case cap=>
  unfold biCap at h
  split at h
  ·rename_i hA hT
   have hA:=toList1 hA;have hT:=toList1 hT;subst hA;subst hT
   split at h
   ·cases h;have q:OpX P keep o (.mov _):=bG (YD ho (by assumption) (by assumption));exact @q
   ·cases h
  ·cases h
 case max=>
  unfold biMax at h
  split at h
  ·rename_i hA
   have hA:=toList2 hA;subst hA
   split at h
   ·cases h;have q:OpX P keep o (.mov _):=bG (YF ho (by assumption) (by assumption));exact @q
   ·cases h
  ·cases h
 case min=>
  unfold biMax at h
  split at h
  ·rename_i hA
   have hA:=toList2 hA;subst hA
   split at h
   ·cases h;have q:OpX P keep o (.mov _):=bG (YG ho (by assumption) (by assumption));exact @q
   ·cases h
  ·cases h
 case append=>
  unfold biApp at h
  split at h
  ·rename_i hA hT
   have hA:=toList2 hA;have hT:=toList2 hT;subst hA;subst hT
   split at h
   ·split at h
    ·rename_i he
     obtain ⟨i,z,h1,h2,h3,h4,h5,rfl,rfl⟩:=nM he
     split at h
     ·rename_i e;subst e;cases h;have q:OpX P keep o (.eff _):=iL (FX ho (by assumption) h1 h2 h4 h5 (by assumption) (by assumption));exact @q
     ·split at h
      ·cases h;have q:OpX P keep o (.eff _):=iL (Nq ho (by assumption) (by assumption) h1 h2 h4 h5 h3 (by assumption) (by assumption));exact @q
      ·split at h
       ·cases h;have q:OpX P keep o (.eff _):=iL (Np ho (by assumption) (by assumption) h1 h2 h4 (by assumption) (by assumption) (by assumption));exact @q
       ·cases h
      ·cases h
    ·cases h
   ·cases h
  ·cases h
 case copy=>
  unfold I4 at h
  split at h
  ·rename_i hA hT
   have hA:=toList2 hA;have hT:=toList2 hT;subst hA;subst hT
   split at h
   ·split at h
    ·cases h;have q:OpX P keep o (.eff _):=iL (Nr ho (by assumption) (by assumption) (by assumption) (by assumption));exact @q
    ·cases h
   ·cases h
  ·cases h
 case clear=>
  unfold DV at h
  split at h
  ·rename_i hA hT
   have hA:=toList1 hA;have hT:=toList1 hT;subst hA;subst hT
   split at h
   ·split at h
    ·rename_i he
     obtain ⟨i,z,h1,h2,h3,h4,h5,rfl,rfl⟩:=nM he
     cases h
     have q:OpX P keep o (.eff _):=iL (IY ho (by assumption) h1 h2 h4 h3 (by assumption));exact @q
    ·cases h
   ·cases h
  ·cases h
 case panic=>
  unfold biPan at h
  split at h
  ·rename_i hA
   have hA:=toList1 hA;subst hA
   split at h
   ·cases h;have q:OpX P keep o (.pan _):=KU (.inr ⟨_,ho⟩) (by assumption);exact @q
   ·cases h
  ·cases h
theorem VC {c:Call} (ho:o.op= .call c) (h:callOf P keep c=some p):OpX P keep o p:=by
 obtain ⟨callee,args,tys⟩:=c
 unfold callOf at h
 cases callee with
 |invoke=>cases h
 |builtin b=>exact aai ho h
 |value f=>
  cases f with
  |func f=>simp only at h;split at h;(cases h;exact PW ho (by assumption));cases h
  |tmp f=>simp only at h;split at h;(cases h;exact yS ho (by assumption) (by assumption));cases h
  |const f=>simp only at h;split at h;(cases h;exact yS ho (by assumption) (by assumption));cases h
  |global f=>simp only at h;split at h;(cases h;exact yS ho (by assumption) (by assumption));cases h
theorem P6 (h:opOf P keep o=some p):OpX P keep o p:=by
 unfold opOf at h
 split at h
 case h_1 ho=>split at h;(cases h;exact bG (XJ (.inl ho) (by assumption)));cases h
 case h_2 ho=>split at h;(cases h;exact bG (XJ (.inr ho) (by assumption)));cases h
 case h_3 ho=>split at h;(cases h;exact bG (U4 ho (by assumption) (by assumption) (by assumption)));cases h
 case h_4 ho=>
  split at h
  ·rename_i hx hy hs
   cases h
   unfold sqOf at hs
   split at hs
   ·rename_i fs hu
    split at hs
    ·rename_i hc
     exact bG (YE ho hc.1 hs hc.2 hx hy)
    ·cases hs
   ·cases hs
  ·cases h;exact bG (Yr ho rfl (by assumption) (by assumption))
  ·cases h
 case h_5 ho=>split at h;(cases h;exact bG (Yt ho (by assumption)));cases h
 case h_6 ho=>split at h;(cases h;exact bG (Yu ho (by assumption)));cases h
 case h_7 ho=>exact VA ho h
 case h_8 ho=>split at h;(cases h;exact bG (U6 ho (by assumption)));cases h
 case h_9 ho=>exact PX ho h
 case h_10 ho=>split at h;(cases h;exact bG (Yy ho (by assumption)));cases h
 case h_11 ho=>exact PY ho h
 case h_12 ho=>
  split at h
  ·split at h
   ·cases h;exact bG (PM ho (by assumption) (by assumption) (by assumption) (by assumption))
   ·cases h
  ·split at h
   ·cases h;exact bG (Vf ho (by assumption) (by assumption) (by assumption) (by assumption))
   ·cases h
  ·cases h
 case h_13 ho=>split at h;(cases h;exact bG (Yz ho (by assumption) (by assumption) (by assumption)));cases h
 case h_14 ho=>exact PZ ho h
 case h_15 ho=>exact VB ho h
 case h_16 ho=>exact P5 ho h
 case h_17 ho=>
  split at h
  ·rename_i u hx hu
   by_cases hi:isIface u=true
   ·rw [if_pos hi] at h;cases h
   ·rw [if_neg hi] at h;cases h;exact bG (Vb ho hu (fun ms e=>hi (by subst e;rfl)) hx)
  ·cases h
 case h_18 ho=>
  split at h
  ·rename_i hfirst
   split at h
   ·cases h
    have hfirst:=Array.toList_eq_nil_iff.1 hfirst
    subst hfirst
    have q:OpX P keep o (.mov _):=bG (Vd ho (by assumption))
    exact @q
   ·cases h
  ·split at h
   ·rename_i hcs
    split at h
    ·cases h
     have hcs:=Array.toList_eq_nil_iff.1 hcs
     subst hcs
     have q:OpX P keep o (.mov _):=bG (Ve ho (by assumption))
     exact @q
    ·cases h
   ·cases h
 case h_19 ho=>
  split at h
  ·split at h
   ·split at h
    ·cases h;exact iL (IW ho (by assumption) (by assumption) (by assumption))
    ·cases h
   ·cases h
  ·cases h
 case h_20 ho=>split at h;(cases h;exact iL (PO ho (by assumption)));cases h
 case h_21 ho=>exact Nz ho h
 case h_22 ho=>split at h;(cases h;exact iL (IX ho (by assumption) (by assumption) (by assumption)));cases h
 case h_23 ho=>
  split at h
  ·split at h
   ·rename_i he
    obtain ⟨i,z,h1,h2,h3,h4,h5,rfl,rfl⟩:=nM he
    cases h
    exact iL (DN ho (by assumption) h1 h2 h4 h5 h3 (by assumption) (by assumption))
   ·cases h
  ·cases h
 case h_24 ho=>split at h;(cases h;exact KU (.inl ho) (by assumption));cases h
 case h_25 ho=>exact VC ho h
 case h_26=>cases h
theorem aaj (h:opOf P keep o=some p):xC P keep o p:=by
 have q:OpX P keep o p:=P6 h
 intro O
 exact q.all
theorem P7 {m:Mv} (h:opOf P keep o=some (.mov m)):fV P keep o m:=by
 have q:OpX P keep o (.mov m):=P6 h
 have q2:=q.mov
 intro O w0 w mu φ h nt e t a h1 h2 v h3
 exact q2 m rfl h1 h2 h3
end
variable {P:Program}
def dstOk (nt:Nat) (d:Option Nat):Bool:=match d with|none=>true|some n=>Nat.blt n nt
def gdOf (keep:List Nat) (ops:Array Oper) (g:Option (Nat×Bool)):Option (Option (Od×Bool)):=
 match g with
 |none=>some none
 |some (j,want)=>match (ops[j]?).bind (·.dst) with
  |some d=>match odOf keep (.tmp d) with|some od=>some (some (od,want))|none=>none
  |none=>none
def stOf (P:Program) (keep:List Nat) (nt:Nat) (ops:Array Oper) (o:Oper):Option St1:=
 match opOf P keep o,gdOf keep ops o.guard with
 |some p,some g=>if dstOk nt o.dst then some (.mk g (dsOf keep o.dst) p) else none
 |_,_=>none
def rgOf (P:Program) (keep:List Nat) (nt:Nat) (ops:Array Oper):List Oper->Option (List St1)
 |[]=>some []
 |o::l=>match stOf P keep nt ops o,rgOf P keep nt ops l with
  |some s,some r=>some (s::r)
  |_,_=>none
def bcOf (P:Program) (keep:List Nat) (nt:Nat) (dg:Array Oper->Option Dr):Code->Option BC
 | .skip=>some .skip
 | .region _ ops false=>match rgOf P keep nt ops ops.toList with|some r=>some (.reg r)|none=>none
 | .region _ ops true=>match dg ops with|some r=>some (.iC r)|none=>none
 | .seq a b=>match bcOf P keep nt dg a,bcOf P keep nt dg b with|some x,some y=>some (.seq x y)|_,_=>none
 | .cond c a b=>match odOf keep c,bcOf P keep nt dg a,bcOf P keep nt dg b with|some z,some x,some y=>some (.cond z x y)|_,_,_=>none
 | .block id a=>match bcOf P keep nt dg a with|some x=>some (.block id x)|none=>none
 | .loop a=>match bcOf P keep nt dg a with|some x=>some (.loop x)|none=>none
 | .exit id=>some (.exit id)
 | .ret=>some .ret
 |_=>none
def rsOf (P:Program) (keep:List Nat):ResultVar->Option Rs
 | .tmp n=>match odOf keep (.tmp n) with|some x=>some (.slot x)|none=>none
 | .cell n ty=>match odOf keep (.tmp n),P.underlying ty,P.info? ty with
  |some x,some u,some i=>if yR u then some (.fG i.size x) else some (.cell1 x)
  |_,_,_=>none
def rssOf (P:Program) (keep:List Nat):List ResultVar->Option (List Rs)
 |[]=>some []
 |r::l=>match rsOf P keep r,rssOf P keep l with|some a,some b=>some (a::b)|_,_=>none
def nodupB:List Nat->Bool
 |[]=>true
 |x::l=> !(l.any (Nat.beq x)) && nodupB l
def bfOf (P:Program) (dg:List Nat->Nat->Array Oper->Option Dr) (f:Nat) (keep:List Nat):Option BF:=
 match P.funcs[f]? with
 |some fn=>match fn.body with
  |some c=>match bcOf P keep fn.ntmps (dg keep fn.ntmps) c,rssOf P keep fn.results.toList with
   |some b,some rs=>if callable P f && nodupB keep && keep.all (Nat.blt · fn.ntmps) then some ⟨fn.ntmps,keep,b,rs⟩ else none
   |_,_=>none
  |none=>none
 |none=>none
theorem aak {keep:List Nat} {ops:Array Oper} {o:Oper} {g:Option (Od×Bool)} (h:gdOf keep ops o.guard=some g):
  (o.guard=none/\g=none)\/∃j want d od,o.guard=some (j,want)/\g=some (od,want)/\(ops[j]?).bind (·.dst)=some d/\odOf keep (.tmp d)=some od:=by
 unfold gdOf at h
 cases hg:o.guard with
 |none=>rw [hg] at h;cases h;exact .inl ⟨rfl,rfl⟩
 |some jw=>
  obtain ⟨j,want⟩:=jw
  rw [hg] at h
  simp only at h
  cases hd:(ops[j]?).bind (·.dst) with
  |none=>rw [hd] at h;cases h
  |some d=>
   rw [hd] at h
   simp only at h
   cases ho:odOf keep (.tmp d) with
   |none=>rw [ho] at h;cases h
   |some od=>rw [ho] at h;cases h;exact .inr ⟨j,want,d,od,rfl,rfl,hd,ho⟩
theorem XL {keep:List Nat} {nt:Nat} {ops:Array Oper} {o:Oper} {s:St1} (h:stOf P keep nt ops o=some s):YN P keep nt ops o s:=by
 unfold stOf at h
 split at h
 ·rename_i p g hp hg
  split at h
  ·rename_i hd
   cases h
   refine ⟨⟨g,p,rfl,aaj hp,fun n hn=> ?_,aak hg⟩⟩
   rw [hn] at hd
   simpa [dstOk,Nat.blt_eq] using hd
  ·cases h
 ·cases h
theorem KW {keep:List Nat} {nt:Nat} {ops:Array Oper}:∀{l:List Oper} {r:List St1},rgOf P keep nt ops l=some r->Nv P keep nt ops l r
 |[],r,h=>by cases h;exact .nil
 |o::l,r,h=>by
  simp only [rgOf] at h
  split at h
  ·rename_i h1 h2
   cases h
   exact .cons (XL h1) (KW h2)
  ·cases h
variable {dr:∀{X:Type},Dp X->Dr->List AV->Hp X->R X}
theorem uh {keep:List Nat} {nt:Nat} {dg:Array Oper->Option Dr} (hdg:∀id ops r,dg ops=some r->Vs P keep nt dr (.region id ops true) r):∀{c:Code} {b:BC},bcOf P keep nt dg c=some b->CS P keep nt dr c b
 | .skip,b,h=>by cases h;exact Vt
 | .region id ops false,b,h=>by
  simp only [bcOf] at h
  split at h
  ·rename_i h1;cases h;exact YO (KW h1)
  ·cases h
 | .region id ops true,b,h=>by
  simp only [bcOf] at h
  split at h
  ·rename_i h1;cases h;exact Vu (hdg id ops _ h1)
  ·cases h
 | .seq x y,b,h=>by
  simp only [bcOf] at h
  split at h
  ·rename_i h1 h2;cases h;exact YQ (uh hdg h1) (uh hdg h2)
  ·cases h
 | .cond z x y,b,h=>by
  simp only [bcOf] at h
  split at h
  ·rename_i h0 h1 h2;cases h;exact Vx h0 (uh hdg h1) (uh hdg h2)
  ·cases h
 | .block id x,b,h=>by
  simp only [bcOf] at h
  split at h
  ·rename_i h1;cases h;exact PU (uh hdg h1)
  ·cases h
 | .loop x,b,h=>by
  simp only [bcOf] at h
  split at h
  ·rename_i h1;cases h;exact Vy (uh hdg h1)
  ·cases h
 | .exit id,b,h=>by cases h;exact Vw
 | .ret,b,h=>by cases h;exact YP
 | .rangeFunc ..,_,h=>by cases h
 | .scope _,_,h=>by cases h
 | .label _,_,h=>by cases h
 | .goto _,_,h=>by cases h
 | .refuse _,_,h=>by cases h
theorem VD {keep:List Nat} {x:ResultVar} {r:Rs} (h:rsOf P keep x=some r):Ny P keep x r:=by
 cases x with
 |tmp n=>
  simp only [rsOf] at h
  split at h
  ·rename_i h1;cases h;exact .slot h1
  ·cases h
 |cell n ty=>
  simp only [rsOf] at h
  split at h
  ·rename_i h1 h2 h3
   split at h
   ·rename_i hag;cases h;exact .fG h1 (wQ h2 hag) h3
   ·rename_i hag;cases h;exact .cell1 h1 h2 (uz (by simpa using hag))
  ·cases h
theorem yT {keep:List Nat}:∀{l:List ResultVar} {r:List Rs},rssOf P keep l=some r->vg P keep l r
 |[],r,h=>by cases h;exact .nil
 |x::l,r,h=>by
  simp only [rssOf] at h
  split at h
  ·rename_i h1 h2;cases h;exact .cons (VD h1) (yT h2)
  ·cases h
theorem qP:∀{l:List Nat},nodupB l=true->l.Nodup
 |[],_=>List.nodup_nil
 |x::l,h=>by
  simp only [nodupB,Bool.and_eq_true] at h
  refine List.nodup_cons.2 ⟨fun hm=> ?_,qP h.2⟩
  have:=h.1
  simp only [Bool.not_eq_true',List.any_eq_false] at this
  exact this x hm (Nat.beq_refl x)
theorem aal {O:dH} {dg:List Nat->Nat->Array Oper->Option Dr} (hdg:∀keep nt id ops r,keep.Nodup->dg keep nt ops=some r->Vs P keep nt dr (.region id ops true) r) {f:Nat} {keep:List Nat} {b:BF} (h:bfOf P dg f keep=some b) (N:Nat):jD P O f (fun D args h=>b.run dr N D args h):=by
 unfold bfOf at h
 split at h
 ·rename_i fn hfn
  split at h
  ·rename_i c hc
   split at h
   ·rename_i bb rs h1 h2
    split at h
    ·rename_i uY
     cases h
     rw [Bool.and_eq_true,Bool.and_eq_true] at uY
     obtain ⟨⟨k1,k2⟩,k3⟩:=uY
     refine Vz N k1 hfn hc rfl (qP k2) (fun d hd=> ?_) (uh (fun id ops r hr=>hdg _ _ id ops r (qP k2) hr) h1) (yT h2)
     have:=List.all_eq_true.1 k3 d hd
     simpa [Nat.blt_eq] using this
    ·cases h
   ·cases h
  ·cases h
 ·cases h
variable {P:Program}
mutual
def eqA:AV->AV->Bool
 | .int k n, .int k' n'=>decide (k=k') && decide (n=n')
 | .bool b, .bool c=>b==c
 | .str s, .str t=>s==t
 | .ptr g o, .ptr g' o'=>Nat.beq g g' && Nat.beq o o'
 | .bU, .bU=>true
 | .slice z g o l c, .slice z' g' o' l' c'=>Nat.beq z z' && Nat.beq g g' && Nat.beq o o' && Nat.beq l l' && decide (c=c')
 | .ae, .ae=>true
 | .bV, .bV=>true
 | .meth f fs, .meth f' fs'=>Nat.beq f f' && eqAs fs fs'
 | .func f cs, .func f' cs'=>Nat.beq f f' && eqAs cs cs'
 | .qJ, .qJ=>true
 | .iface t v, .iface t' v'=>Nat.beq t t' && eqA v v'
 | .FH, .FH=>true
 | .agg l, .agg l'=>eqAs l l'
 | .tup l, .tup l'=>eqAs l l'
 | .bot, .bot=>true
 |_,_=>false
def eqAs:List AV->List AV->Bool
 |[],[]=>true
 |a::l,b::r=>eqA a b && eqAs l r
 |_,_=>false
end
mutual
theorem I5:∀{a b:AV},eqA a b=true->a=b
 | .int k n,b,h=>by cases b<;>simp [eqA] at h;rw [h.1,h.2]
 | .bool c,b,h=>by cases b<;>simp [eqA] at h;rw [h]
 | .str s,b,h=>by cases b<;>simp [eqA] at h;rw [h]
 | .ptr g o,b,h=>by cases b<;>simp [eqA] at h;rw [h.1,h.2]
 | .bU,b,h=>by cases b<;>simp [eqA] at h;rfl
 | .slice z g o l c,b,h=>by cases b<;>simp [eqA] at h;obtain ⟨⟨⟨⟨h1,h2⟩,h3⟩,h4⟩,h5⟩:=h;rw [h1,h2,h3,h4,h5]
 | .ae,b,h=>by cases b<;>simp [eqA] at h;rfl
 | .bV,b,h=>by cases b<;>simp [eqA] at h;rfl
 | .meth f fs,b,h=>by
  cases b<;>simp [eqA] at h
  obtain ⟨h1,h2⟩:=h
  rw [h1,mP h2]
 | .func f cs,b,h=>by
  cases b<;>simp [eqA] at h
  obtain ⟨h1,h2⟩:=h
  rw [h1,mP h2]
 | .qJ,b,h=>by cases b<;>simp [eqA] at h;rfl
 | .iface t v,b,h=>by
  cases b<;>simp [eqA] at h
  obtain ⟨h1,h2⟩:=h
  rw [h1,I5 h2]
 | .FH,b,h=>by cases b<;>simp [eqA] at h;rfl
 | .agg l,b,h=>by cases b<;>simp [eqA] at h;rw [mP h]
 | .tup l,b,h=>by cases b<;>simp [eqA] at h;rw [mP h]
 | .bot,b,h=>by cases b<;>simp [eqA] at h;rfl
theorem mP:∀{a b:List AV},eqAs a b=true->a=b
 |[],b,h=>by cases b<;>simp [eqAs] at h;rfl
 |x::l,b,h=>by
  cases b with
  |nil=>simp [eqAs] at h
  |cons y r=>
   simp only [eqAs,Bool.and_eq_true] at h
   rw [I5 h.1,mP h.2]
end
def optL (x:Option Od):List Od:=match x with|none=>[]|some o=>[o]
def Mv.ods:Mv->List Od
 | .mv x| .jd x| .neg x| .conv _ x| .b2s x| .i2s x| .FP x| .U1 _ x| .U2 _ _ x| .ext _ x| .aG _ x| .ld1 x| .ldn _ x| .ah x| .lens x| .DC x| .yL _ x=>[x]
 | .pick c x y=>[c,x,y]
 | .bin _ _ x y| .aP _ x y| .idx x y| .FQ x y| .Nk x y=>[x,y]
 | .bld _ ps=>ps.map fun p=>p.2.2
 | .sl _ x a b c=>x::(optL a++(optL b++optL c))
 | .sls x a b=>x::(optL a++optL b)
 | .IP _ cs=>cs
 | .yM _ cs=>cs
 | .U3 _ _ x i=>[x,i]
 | .seq _ _ x y=>[x,y]
def Ef.ods:Ef->List Od
 | .alloc _=>[]
 | .box x| .clear _ _ x| .s2b x| .mark x=>[x]
 | .aF _ _ _ ps=>ps.map fun p=>p.2.2
 | .store _ a x=>[a,x]
 | .append _ _ x y| .apps _ x y| .Aq _ _ _ x y| .copy _ x y| .yj _ _ _ x y=>[x,y]
def Op1.ods:Op1->List Od
 | .mov m=>m.ods
 | .eff e=>e.ods
 | .call _ xs=>xs
 | .qO f xs=>f::xs
 | .pan x=>[x]
section
variable {X:Type} {e e':En} {t t':List AV}
theorem yw {xs:List Od} (h:∀x∈xs,x.ev e t=x.ev e' t'):(xs.map fun x=>x.ev e t)=xs.map fun x=>x.ev e' t':=List.map_congr_left h
theorem wR {ps:List (Nat×Nat×Od)} (h:∀x∈(ps.map fun p=>p.2.2),x.ev e t=x.ev e' t'):(ps.map fun p=>(p.1,p.2.1,p.2.2.ev e t))=ps.map fun p=>(p.1,p.2.1,p.2.2.ev e' t'):=
 List.map_congr_left fun p hp=>by rw [h p.2.2 (List.mem_map.2 ⟨p,hp,rfl⟩)]
theorem nN {x:Option Od} (h:∀y∈optL x,y.ev e t=y.ev e' t'):oev x e t=oev x e' t':=by
 cases x with
 |none=>rfl
 |some y=>simp only [oev];rw [h y (by simp [optL])]
theorem Mv.congr {m:Mv} {h:Hp X} (hx:∀x∈m.ods,x.ev e t=x.ev e' t'):m.ev e t h=m.ev e' t' h:=by
 cases m
 case bld z ps=>simp only [Mv.ev];rw [wR hx]
 case sl z x a b c=>
  simp only [Mv.ev]
  rw [hx x (by simp [Mv.ods]),nN (x:=a) (fun y hy=>hx y (by simp [Mv.ods,hy])),nN (x:=b) (fun y hy=>hx y (by simp [Mv.ods,hy])),nN (x:=c) (fun y hy=>hx y (by simp [Mv.ods,hy]))]
 case sls x a b=>
  simp only [Mv.ev]
  rw [hx x (by simp [Mv.ods]),nN (x:=a) (fun y hy=>hx y (by simp [Mv.ods,hy])),nN (x:=b) (fun y hy=>hx y (by simp [Mv.ods,hy]))]
 case IP f cs=>simp only [Mv.ev];rw [yw (xs:=cs) hx]
 case yM f cs=>simp only [Mv.ev];rw [yw (xs:=cs) hx]
 all_goals (simp only [Mv.ods,List.mem_cons,List.not_mem_nil,or_false,forall_eq_or_imp,forall_eq] at hx;simp only [Mv.ev,hx])
theorem Ef.congr {m:Ef} {h:Hp X} (hx:∀x∈m.ods,x.ev e t=x.ev e' t'):m.ev e t h=m.ev e' t' h:=by
 cases m
 case alloc=>rfl
 case aF z l zero ps=>simp only [Ef.ev];rw [wR hx]
 all_goals (simp only [Ef.ods,List.mem_cons,List.not_mem_nil,or_false,forall_eq_or_imp,forall_eq] at hx;simp only [Ef.ev,hx])
theorem Op1.congr {D:Dp X} {o:Op1} {h:Hp X} (hx:∀x∈o.ods,x.ev e t=x.ev e' t'):o.run D e t h=o.run D e' t' h:=by
 cases o with
 |mov m=>simp only [Op1.run];rw [Mv.congr hx]
 |eff m=>simp only [Op1.run];rw [Ef.congr hx]
 |call f xs=>simp only [Op1.run];rw [yw (xs:=xs) hx]
 |qO f xs=>simp only [Op1.run];rw [hx f (by simp [Op1.ods]),yw (fun x h=>hx x (by simp [Op1.ods,h]))]
 |pan x=>simp only [Op1.run];rw [hx x (by simp [Op1.ods])]
end
def Ef.alc (ef:Ef) (e:En) (t:List AV):Option ((Nat->AV)×List AV):=
 match ef with
 | .alloc cs=>some (fun g=> .ptr g 0,cs)
 | .box x=>match cellsOf (x.ev e t) with
  |some l=>bif allOne l then some (fun g=> .ptr g 0,l) else none
  |none=>none
 | .aF z len zero parts=>match fillA (rep zero len) (parts.map fun p=>(p.1,p.2.1,p.2.2.ev e t)) with
  |some l=>bif allOne l && Nat.beq l.length (len*z) && Nat.ble len maxLen then some (fun g=> .slice z g 0 len (some len),l) else none
  |none=>none
 |_=>none
def Ef.isAlc:Ef->Bool
 | .alloc _| .box _| .aF ..=>true
 |_=>false
theorem I7 {X:Type} {ef:Ef} (hi:ef.isAlc=true) {e:En} {t:List AV} {h:Hp X}:ef.ev e t h=(ef.alc e t).map fun p=>(p.1 h.n,h.push (.rw p.2)):=by
 cases ef<;>first|(cases hi;done)|skip
 ·rfl
 ·rename_i x
  simp only [Ef.ev,Ef.alc]
  cases cellsOf (x.ev e t) with
  |none=>rfl
  |some l=>simp only;cases allOne l<;>rfl
 ·rename_i z len zero parts
  simp only [Ef.ev,Ef.alc]
  cases fillA (rep zero len) (parts.map fun p=>(p.1,p.2.1,p.2.2.ev e t)) with
  |none=>rfl
  |some l=>simp only;cases (allOne l && Nat.beq l.length (len*z) && Nat.ble len maxLen)<;>rfl
theorem NC {ef:Ef} (hi:ef.isAlc=true) {e e':En} {t t':List AV} (hx:∀x∈ef.ods,x.ev e t=x.ev e' t'):ef.alc e t=ef.alc e' t':=by
 cases ef<;>first|(cases hi;done)|skip
 ·rfl
 ·simp only [Ef.ods,List.mem_cons,List.not_mem_nil,or_false,forall_eq] at hx
  simp only [Ef.alc,hx]
 ·simp only [Ef.alc];rw [wR hx]
def F7 (P:Program) (keep:List Nat) (o:Oper) (ef:Ef):Prop:=
 ∀{m:Mu} {nt:Nat} {e:En} {t:List AV} {a:Act} (w:World),FR m keep nt e t a->∀{mk:Nat->AV} {l:List AV},ef.alc e t=some (mk,l)->
  ∃cs ty v' z,(execOp a.eval o).run P w= .ok (.value v') (w.alloc (.cells cs ty))/\VRs m l cs.toList/\(∀a∈l,a.one=true)/\∀(m2:Mu) g,m2 g=some ⟨w.heap.size,0,cs.size,z⟩->VR m2 (mk g) v'
section
variable {keep:List Nat} {o:Oper}
theorem F8 {ty:TypeId} {i:TypeInfo} {z:Value} {l:List AV} (ho:o.op= .alloc ty) (hi:P.info? ty=some i) (hz:i.zero=some z) (hl:avOfs z.cells.toList=some l):F7 P keep o (.alloc l):=by
 intro m nt e t a w hf mk l' h
 cases h
 obtain ⟨h1,h2⟩:=gI m hl
 refine ⟨z.cells,ty, .pointer (some ⟨w.heap.size,0,none⟩),0, ?_,h1,h2,fun m2 g hg=>⟨_,hg,by simp⟩⟩
 simp [execOp,ho,Instr.alloc,zeroValue,typeInfo,hi,hz,newVar,newRow]
theorem ND {ty:TypeId} {x:Operand} {x':Od} (ho:o.op= .box ty x) (hx:odOf keep x=some x'):F7 P keep o (.box x'):=by
 intro m nt e t a w hf mk l' h
 have h1:=hf.od hx
 simp only [Ef.alc] at h
 cases hc:cellsOf (x'.ev e t) with
 |none=>rw [hc] at h;cases h
 |some l=>
  rw [hc] at h
  simp only at h
  obtain ⟨h2,h⟩:=bM h
  cases h
  refine ⟨(a.eval x).cells,ty, .pointer (some ⟨w.heap.size,0,none⟩),0, ?_,pX hc h1,kY h2,fun m2 g hg=>⟨_,hg,by simp⟩⟩
  simp [execOp,ho,Instr.box,newVar,newRow]
theorem DX {ty el:TypeId} {len:Nat} {parts:Array (Nat×Operand)} {ps:List (Nat×Nat×Od)} {i:TypeInfo} {z:Value} {l0:List AV} (ho:o.op= .buildSlice ty len parts) (hu:P.underlying ty=some (.slice el)) (hi:P.info? el=some i) (hz:i.zero=some z) (hzs:z.cells.size=i.size) (h0:0 < i.size) (hbig:len*i.size<=16777216)
  (hl:avOfs z.cells.toList=some l0) (hp:partsOf (fun k=>some (k*i.size,i.size)) keep parts.toList=some ps):F7 P keep o (.aF i.size len l0 ps):=by
 intro m nt e t a w hf mk l' h
 have hs:SR ⟨Empty,fun x=>x.elim,fun {x}=>x.elim,fun {x}=>x.elim⟩ w w (fun _=>none) (fun _ _=>False) (⟨.nil,0⟩:Hp Empty):=by
  have hg:∀g,(⟨.nil,0⟩:Hp Empty).get g=none:=fun g=>by
   have:∀f g,T.get (α:=AB Empty) f .nil g=none:=by
    intro f
    induction f with
    |zero=>intro g;rfl
    |succ f ih=>intro g;rw [T.jR];split;rfl;split<;>exact ih _
   exact this _ g
  refine ⟨Below.refl _ _,fun g c h=>(by rw [hg] at h;cases h),fun g g' c c' h=>(by rw [hg] at h;cases h),fun g c h=>(by rw [hg] at h;cases h),fun g p h=>by cases h⟩
 simp only [Ef.alc] at h
 cases hfl:fillA (rep l0 len) (ps.map fun p=>(p.1,p.2.1,p.2.2.ev e t)) with
 |none=>rw [hfl] at h;cases h
 |some r=>
  rw [hfl] at h
  simp only at h
  obtain ⟨hb,h⟩:=bM h
  cases h
  rw [Bool.and_eq_true,Bool.and_eq_true] at hb
  obtain ⟨⟨b1,b2⟩,b3⟩:=hb
  have b2:=Nat.eq_of_beq_eq_true b2
  have b3:=Nat.le_of_ble_eq_true b3
  obtain ⟨k1,k2⟩:=ve hf hp
  have hrep:=wP (gI m hl).1 len (len*z.cells.size) rfl
  obtain ⟨cs',h1,h2⟩:=yl (place:=fun k=>some (k*i.size,i.size)) k1 k2 hrep hfl
  have hcs:cs'.size=len*i.size:=by rw [<-b2,<-h2.len];simp
  have hpm:(parts.map fun p=>(p.1,a.eval p.2)).toList=parts.toList.map fun p=>(p.1,a.eval p.2):=by simp
  refine ⟨cs',el, .slice (some ⟨w.heap.size,0,none⟩) len len,i.size, ?_,h2,kY b1,fun m2 g hg=> ?_⟩
  ·have hrun:(Instr.buildSlice ty len (parts.map fun p=>(p.1,a.eval p.2))).run P w= .ok (.slice (some ⟨w.heap.size,0,none⟩) len len) (w.alloc (.cells cs' el)):=by
    unfold Instr.buildSlice
    simp only [Sem.run_bind,run_underlying hu,Result.andThen_ok,sizeOf,typeInfo,run_program,hi,Sem.run_pure]
    rw [if_neg (by omega)]
    by_cases hz0:len*i.size=0
    ·have hlen0:len=0:=by rcases Nat.mul_eq_zero.1 hz0 with h|h;exact h;omega
     subst hlen0
     have hz1:∀f:Nat->Value,(Array.range 0).map f= #[]:=fun f=>by apply Array.ext';simp
     simp only [Nat.zero_mul,if_true,Sem.run_bind,Sem.run_pure,Result.andThen_ok,hz1,hpm]
     simp only [Nat.zero_mul,hz1] at h1
     rw [h1]
     simp [newRow]
    ·rw [if_neg hz0]
     simp only [Sem.run_bind,zeroValue,typeInfo,run_program,Result.andThen_ok,hi,hz,Sem.run_pure,hpm]
     rw [hzs] at h1
     rw [hzs,h1]
     simp [newRow]
   have:execOp a.eval o=(do pure (.value (<-Instr.buildSlice ty len (parts.map fun p=>(p.1,a.eval p.2))))):=by simp only [execOp,ho]
   rw [this]
   simp [hrun]
  ·simp only [VR]
   exact ⟨_,_,_,hg,rfl,Nat.le_refl _,b3,fun _=>by simp,⟨h0,rfl⟩,rfl⟩
theorem YR {ef:Ef} (h:opOf P keep o=some (.eff ef)) (hi:ef.isAlc=true):F7 P keep o ef:=by
 unfold opOf at h
 split at h
 case h_19 ho=>
  split at h
  ·split at h
   ·split at h
    ·cases h;exact F8 ho (by assumption) (by assumption) (by assumption)
    ·cases h
   ·cases h
  ·cases h
 case h_20 ho=>split at h;(cases h;exact ND ho (by assumption));cases h
 case h_21 ho=>
  unfold bsliceOf at h
  split at h
  ·rename_i el hu
   split at h
   ·rename_i s b l he
    split at h
    ·rename_i ps hps
     split at h
     ·rename_i hle
      cases h
      obtain ⟨i,z,h1,h2,h3,h4,h5,rfl,rfl⟩:=nM he
      exact DX ho hu h1 h2 h4 h5 hle h3 hps
     ·cases h
    ·cases h
   ·cases h
  ·cases h
 case h_7 ho=>
  unfold convOf at h
  split at h
  ·cases h
  ·split at h<;>cases h;cases hi
  ·split at h<;>cases h
  ·split at h
   ·split at h<;>cases h;cases hi
   ·cases h
  ·cases h
  ·cases h
  ·cases h
 case h_9 ho=>unfold fieldOf at h;split at h;(split at h;(split at h;(split at h<;>cases h);cases h);cases h);cases h
 case h_11 ho=>unfold yu at h;split at h;(split at h;(split at h;(split at h<;>cases h);cases h);cases h);cases h
 case h_14 ho=>unfold sliceOf at h;split at h;(split at h<;>cases h);(split at h<;>cases h);cases h
 case h_15 ho=>unfold loadOf at h;split at h;(split at h<;>cases h);cases h
 case h_16 ho=>unfold buildOf at h;split at h;(split at h;(split at h;(split at h<;>cases h);cases h);cases h);cases h
 case h_25 c ho=>
  obtain ⟨callee,args,tys⟩:=c
  unfold callOf at h
  cases callee with
  |invoke=>cases h
  |value f=>cases f<;>simp only at h<;>split at h<;>cases h
  |builtin b=>
   cases b<;>simp only [biOf] at h<;>first|(cases h;done)|skip
   case len=>unfold biLen at h;split at h;(split at h<;>cases h);cases h
   case cap=>unfold biCap at h;split at h;(split at h<;>cases h);cases h
   case max=>unfold biMax at h;split at h;(split at h<;>cases h);cases h
   case min=>unfold biMax at h;split at h;(split at h<;>cases h);cases h
   case append=>unfold biApp at h;split at h;(split at h;(split at h;(split at h;(cases h;cases hi);(split at h;(cases h;cases hi);(split at h;(cases h;cases hi);cases h);cases h));cases h);cases h);cases h
   case copy=>unfold I4 at h;split at h;(split at h;(split at h<;>cases h;cases hi);cases h);cases h
   case clear=>unfold DV at h;split at h;(split at h;(split at h<;>cases h;cases hi);cases h);cases h
   case panic=>unfold biPan at h;split at h;(split at h<;>cases h);cases h
 all_goals (repeat' (first|(cases h;done)|(cases h;cases hi;done)|split at h))
end
variable {P:Program}
def St1.g:St1->Option (Od×Bool)| .mk g _ _=>g
def St1.d:St1->Ds| .mk _ d _=>d
def St1.o:St1->Op1| .mk _ _ o=>o
def St1.ods (s:St1):List Od:=(match s.g with|none=>[]|some (x,_)=>[x])++s.o.ods
def Op1.isMov:Op1->Bool| .mov _=>true|_=>false
def Op1.isAlc:Op1->Bool| .eff f=>f.isAlc|_=>false
def Op1.df (o:Op1):Bool:=o.isMov||o.isAlc
def hits (d:Ds) (x:Od):Bool:=match d,x with| .slot i, .slot j=>Nat.beq i j| .env i, .env j=>Nat.beq i j|_,_=>false
def clash (d d':Ds):Bool:=match d,d' with| .slot i, .slot j=>Nat.beq i j| .env i, .env j=>Nat.beq i j|_,_=>false
theorem Qa {d:Ds} {v:AV} {e:En} {t:List AV} {x:Od} (hd:∀i,d= .slot i->i < t.length):x.ev (putE d v e) (putT d v t)=bif hits d x then v else x.ev e t:=by
 cases d with
 |none=>cases x<;>simp [putE,putT,hits]
 |slot i=>
  have hi:=hd i rfl
  cases x with
  |slot j=>
   simp only [Od.ev,putT,Bc,hits]
   by_cases h:j=i
   ·subst h;simp [hi]
   ·have hb:=tY (Ne.symm h)
    rw [if_neg (fun hh=>h hh.1),hb];rfl
  |env k=>simp [Od.ev,putE,hits]
  |const v=>simp [Od.ev,hits]
 |env i=>
  cases x with
  |slot j=>simp [Od.ev,putT,hits]
  |env k=>
   simp only [Od.ev,putE,lookE,hits]
  |const v=>simp [Od.ev,hits]
theorem yU {d d':Ds} {x:Od} (h:hits d x=true) (h':hits d' x=true):clash d d'=true:=by
 cases d<;>cases d'<;>cases x<;>simp_all [hits,clash]
section
variable {X:Type}
noncomputable def sv (D:Dp X) (s:St1) (e:En) (t:List AV) (h:Hp X):AV×Hp X:=
 match gdv s.g e t with
 |some true=>(match s.o.run D e t h with| .ret v h'=>(v,h')|_=>(.bot,h))
 |some false=>(.tup [],h)
 |none=>(.bot,h)
noncomputable def cst (D:Dp X) (S:Nat->St1) (t0:List AV) (h0:Hp X):Nat->En×List AV×Hp X
 |0=>([],t0,h0)
 |p+1=>
  let c:=cst D S t0 h0 p
  let r:=sv D (S p) c.1 c.2.1 c.2.2
  (putE (S p).d r.1 c.1,putT (S p).d r.1 c.2.1,r.2)
inductive Pa (X:Type) where
 |skip
 |mov (m:Mv) (e:En) (t:List AV) (v:AV)
 |alc (g:Nat) (l:List AV)
noncomputable def Pa.ok {X:Type} (h:Hp X) (p:Pa X):Bool:=
 match p with
 | .skip=>true
 | .mov m e t v=>(match m.ev e t h with|some v'=>eqA v v'|none=>false)
 | .alc g l=>(match h.get g with|some (.rw l')=>eqAs l l'|_=>false)
noncomputable def paOf {X:Type} (o:Op1) (e:En) (t:List AV) (h:Hp X) (v:AV) (h':Hp X):Option (Pa X):=
 match o with
 | .mov m=>some (.mov m e t v)
 | .eff f=>bif f.isAlc then (match h'.get h.n,f.alc e t with|some (.rw l),some (_,l')=>bif eqAs l l' then some (.alc h.n l) else none|_,_=>none) else some .skip
 |_=>some .skip
noncomputable def chkAll {X:Type} (h:Hp X) (past:List (Pa X)):List Nat->Bool
 |[]=>true
 |q::r=>(match past[q]? with|some p=>p.ok h|none=>true) && chkAll h past r
noncomputable def drGo {X:Type} (D:Dp X):Dr->List (Pa X)->En->List AV->Hp X->R X
 |[],_,_,t,h=> .norm t h
 |(s,chk)::r,past,e,t,h=>
  match gdv s.g e t with
  |none=> .bad
  |some false=>drGo D r (past++[.skip]) (putE s.d (.tup []) e) (putT s.d (.tup []) t) h
  |some true=>(match s.o.run D e t h with
   | .ret v h'=>(match paOf s.o e t h v h' with
    |some pa=>bif chkAll h' past chk then drGo D r (past++[pa]) (putE s.d v e) (putT s.d v t) h' else .bad
    |none=> .bad)
   | .panic v h'=> .panic v t h'
   | .bad=> .bad)
def mQ (r:Dr) (t:List AV):List AV:=r.foldl (fun t s=>putT s.1.d .bot t) t
def panR {X:Type} (t0:List AV) (x:R X):R X:=match x with| .panic v _ h=> .panic v t0 h|x=>x
noncomputable def drR {X:Type} (D:Dp X) (r:Dr) (t:List AV) (h:Hp X):R X:=panR (mQ r t) (drGo D r [] [] t h)
theorem F9 (i j:Nat):∀(t:List AV),getS (setS t i .bot) j=bif Nat.beq i j then .bot else getS t j
 |[]=>by
  show getS [] j=_
  have:getS [] j= .bot:=by cases j<;>rfl
  rw [this]
  cases Nat.beq i j<;>rfl
 |x::t=>by
  cases i with
  |zero=>cases j<;>rfl
  |succ i=>cases j with
   |zero=>rfl
   |succ j=>exact F9 i j t
theorem Bf (i:Nat):∀(r:Dr) (t:List AV),(∀s∈r,hits s.1.d (.slot i)=false)/\getS (mQ r t) i=getS t i\/(getS (mQ r t) i= .bot)
 |[],t=> .inl ⟨(fun s hs=>by cases hs),rfl⟩
 |s::r,t=>by
  have e:mQ (s::r) t=mQ r (putT s.1.d .bot t):=rfl
  rw [e]
  rcases Bf i r (putT s.1.d .bot t) with ⟨h1,h2⟩|h
  ·cases hd:s.1.d with
   |slot j=>
    rw [hd] at h2
    have h3:getS (putT (.slot j) .bot t) i=bif Nat.beq j i then .bot else getS t i:=F9 j i t
    rw [h3] at h2
    cases hb:Nat.beq j i with
    |true=>rw [hb] at h2;exact .inr h2
    |false=>
     rw [hb] at h2
     refine .inl ⟨fun s' hs'=> ?_,h2⟩
     rcases List.mem_cons.1 hs' with rfl|hs'
     ·rw [hd]
      exact hb
     ·exact h1 s' hs'
   |none=>
    rw [hd] at h2
    refine .inl ⟨fun s' hs'=> ?_,h2⟩
    rcases List.mem_cons.1 hs' with rfl|hs'
    ·rw [hd];rfl
    ·exact h1 s' hs'
   |env k=>
    rw [hd] at h2
    refine .inl ⟨fun s' hs'=> ?_,h2⟩
    rcases List.mem_cons.1 hs' with rfl|hs'
    ·rw [hd];rfl
    ·exact h1 s' hs'
  ·exact .inr h
theorem Bg:∀(r:Dr) (t:List AV),(mQ r t).length=t.length
 |[],t=>rfl
 |s::r,t=>by
  have e:mQ (s::r) t=mQ r (putT s.1.d .bot t):=rfl
  rw [e,Bg r]
  cases s.1.d<;>simp only [putT]<;>first|rfl|exact uU ..
def xW (D:Dp X) (S:Nat->St1) (t0:List AV) (h0:Hp X) (q:Nat) (h:Hp X):Prop:=
 let c:=cst D S t0 h0 q
 gdv (S q).g c.1 c.2.1=some false\/((∀m,(S q).o= .mov m->m.ev c.1 c.2.1 h=some (sv D (S q) c.1 c.2.1 c.2.2).1)/\
  ∀f,(S q).o= .eff f->f.isAlc=true->∃mk l,f.alc c.1 c.2.1=some (mk,l)/\h.get c.2.2.n=some (.rw l))
structure Good (D:Dp X) (S:Nat->St1) (C:Nat->List Nat) (n:Nat) (t0:List AV) (h0:Hp X):Prop where
 run:∀p,p < n->let c:=cst D S t0 h0 p;gdv (S p).g c.1 c.2.1=some false\/(gdv (S p).g c.1 c.2.1=some true/\(S p).o.run D c.1 c.2.1 c.2.2= .ret (sv D (S p) c.1 c.2.1 c.2.2).1 (sv D (S p) c.1 c.2.1 c.2.2).2)
 self:∀p,p < n->xW D S t0 h0 p (cst D S t0 h0 (p+1)).2.2
 chk:∀p,p < n->gdv (S p).g (cst D S t0 h0 p).1 (cst D S t0 h0 p).2.1=some true->∀q∈C p,q < p->xW D S t0 h0 q (cst D S t0 h0 (p+1)).2.2
def YS (D:Dp X) (S:Nat->St1) (t0:List AV) (h0:Hp X) (past:List (Pa X)):Prop:=
 ∀q pa,past[q]?=some pa->∀h,pa.ok h=true->xW D S t0 h0 q h
theorem Bh {h:Hp X} {past:List (Pa X)}:∀{l:List Nat},chkAll h past l=true->∀q∈l,∀pa,past[q]?=some pa->pa.ok h=true
 |[],_,q,hq,_,_=>by cases hq
 |x::l,hh,q,hq,pa,hpa=>by
  simp only [chkAll,Bool.and_eq_true] at hh
  rcases List.mem_cons.1 hq with rfl|hq
  ·rw [hpa] at hh;exact hh.1
  ·exact Bh hh.2 q hq pa hpa
theorem YT {Q:Nat->Prop} {p:Nat} (h:∀q,q < p->Q q) (h':Q p):∀q,q < p+1->Q q:=fun q hq=>by
 by_cases e:q=p
 ·rw [e];exact h'
 ·exact h q (by omega)
def aam (D:Dp X) (S:Nat->St1) (C:Nat->List Nat) (t0:List AV) (h0:Hp X) (n:Nat) (r:R X):Prop:=
 (Good D S C n t0 h0/\r= .norm (cst D S t0 h0 n).2.1 (cst D S t0 h0 n).2.2)\/
 ∃q v h',q < n/\Good D S C q t0 h0/\gdv (S q).g (cst D S t0 h0 q).1 (cst D S t0 h0 q).2.1=some true/\(S q).o.run D (cst D S t0 h0 q).1 (cst D S t0 h0 q).2.1 (cst D S t0 h0 q).2.2= .panic v h'/\r= .panic v (cst D S t0 h0 q).2.1 h'
theorem good_step {D:Dp X} {S:Nat->St1} {C:Nat->List Nat} {t0:List AV} {h0:Hp X}:∀(r:Dr) (p:Nat) (past:List (Pa X)),(∀i,i < r.length->(r[i]?)=some (S (p+i),C (p+i)))->past.length=p->YS D S t0 h0 past->Good D S C p t0 h0->
  drGo D r past (cst D S t0 h0 p).1 (cst D S t0 h0 p).2.1 (cst D S t0 h0 p).2.2≠ .bad->
  aam D S C t0 h0 (p+r.length) (drGo D r past (cst D S t0 h0 p).1 (cst D S t0 h0 p).2.1 (cst D S t0 h0 p).2.2)
 |[],p,past,_,_,_,hg,_=> .inl ⟨hg,rfl⟩
 |(s,chk)::r,p,past,hr,hlen,hp,hg,hb=>by
  have h0':=hr 0 (by simp)
  simp at h0'
  obtain ⟨rfl,rfl⟩:=h0'
  have hsucc:cst D S t0 h0 (p+1)=(putE (S p).d (sv D (S p) (cst D S t0 h0 p).1 (cst D S t0 h0 p).2.1 (cst D S t0 h0 p).2.2).1 (cst D S t0 h0 p).1,putT (S p).d (sv D (S p) (cst D S t0 h0 p).1 (cst D S t0 h0 p).2.1 (cst D S t0 h0 p).2.2).1 (cst D S t0 h0 p).2.1,(sv D (S p) (cst D S t0 h0 p).1 (cst D S t0 h0 p).2.1 (cst D S t0 h0 p).2.2).2):=rfl
  have next:∀pa,(∀h,pa.ok h=true->xW D S t0 h0 p h)->Good D S C (p+1) t0 h0->
    drGo D r (past++[pa]) (cst D S t0 h0 (p+1)).1 (cst D S t0 h0 (p+1)).2.1 (cst D S t0 h0 (p+1)).2.2≠ .bad->
    aam D S C t0 h0 (p+(r.length+1)) (drGo D r (past++[pa]) (cst D S t0 h0 (p+1)).1 (cst D S t0 h0 (p+1)).2.1 (cst D S t0 h0 (p+1)).2.2):=fun pa hpa hg' hb'=>by
   have:=good_step (C:=C) r (p+1) (past++[pa]) (fun i hi=>by have:=hr (i+1) (by simp;omega);simpa [Nat.add_assoc,Nat.add_comm 1 i] using this) (by simp [hlen]) (fun q pa' hq h hok=>by
    rw [List.getElem?_append] at hq
    split at hq
    ·exact hp q pa' hq h hok
    ·have:q=p:=by
      rename_i hn
      rw [hlen] at hn hq
      have h3:=(List.getElem?_eq_some_iff.1 hq).1
      simp at h3
      omega
     subst this
     rw [hlen] at hq
     simp at hq
     subst hq
     exact hpa h hok) hg' hb'
   rw [show p+(r.length+1)=p+1+r.length by omega]
   exact this
  have build:(let c:=cst D S t0 h0 p;gdv (S p).g c.1 c.2.1=some false\/(gdv (S p).g c.1 c.2.1=some true/\(S p).o.run D c.1 c.2.1 c.2.2= .ret (sv D (S p) c.1 c.2.1 c.2.2).1 (sv D (S p) c.1 c.2.1 c.2.2).2))->xW D S t0 h0 p (cst D S t0 h0 (p+1)).2.2->
    (gdv (S p).g (cst D S t0 h0 p).1 (cst D S t0 h0 p).2.1=some true->∀q∈C p,q < p->xW D S t0 h0 q (cst D S t0 h0 (p+1)).2.2)->Good D S C (p+1) t0 h0:=fun h1 h2 h3=>
   ⟨YT hg.run h1,YT hg.self h2,YT hg.chk h3⟩
  simp only [drGo] at hb ⊢
  simp only [List.length_cons]
  cases hgd:gdv (S p).g (cst D S t0 h0 p).1 (cst D S t0 h0 p).2.1 with
  |none=>rw [hgd] at hb;exact absurd rfl hb
  |some b=>
   rw [hgd] at hb
   cases b with
   |false=>
    simp only at hb ⊢
    have hsv:sv D (S p) (cst D S t0 h0 p).1 (cst D S t0 h0 p).2.1 (cst D S t0 h0 p).2.2=(.tup [],(cst D S t0 h0 p).2.2):=by simp only [sv,hgd]
    rw [hsv] at hsucc
    simp only [hsucc] at next
    exact next .skip (fun h _=> .inl hgd) (build (.inl hgd) (.inl hgd) (fun h=>by rw [hgd] at h;cases h)) hb
   |true=>
    simp only at hb ⊢
    cases hrun:(S p).o.run D (cst D S t0 h0 p).1 (cst D S t0 h0 p).2.1 (cst D S t0 h0 p).2.2 with
    |panic v h'=>exact .inr ⟨p,v,h',by omega,hg,hgd,hrun,rfl⟩
    |bad=>rw [hrun] at hb;exact absurd rfl hb
    |ret v h'=>
     rw [hrun] at hb
     simp only at hb ⊢
     have hsv:sv D (S p) (cst D S t0 h0 p).1 (cst D S t0 h0 p).2.1 (cst D S t0 h0 p).2.2=(v,h'):=by simp only [sv,hgd,hrun]
     rw [hsv] at hsucc
     cases hpa:paOf (S p).o (cst D S t0 h0 p).1 (cst D S t0 h0 p).2.1 (cst D S t0 h0 p).2.2 v h' with
     |none=>rw [hpa] at hb;exact absurd rfl hb
     |some pa=>
      rw [hpa] at hb
      simp only at hb ⊢
      cases uY:chkAll h' past (C p) with
      |false=>rw [uY] at hb;exact absurd rfl hb
      |true=>
       rw [uY] at hb
       simp only [cond_true] at hb ⊢
       have Gf:∀h,pa.ok h=true->xW D S t0 h0 p h:=by
        intro h hok
        refine .inr ⟨fun m hm=> ?_,fun f hf hal=> ?_⟩
        ·rw [hm] at hpa
         cases hpa
         simp only [Pa.ok] at hok
         split at hok
         ·rename_i v2 hv2
          rw [hv2,hsv,I5 hok]
         ·cases hok
        ·rw [hf] at hpa
         simp only [paOf,hal,cond_true] at hpa
         split at hpa
         ·rename_i l mk l2 hget hal2
          obtain ⟨heq,hpa⟩:=bM hpa
          cases hpa
          have heq:=mP heq
          subst heq
          simp only [Pa.ok] at hok
          split at hok
          ·rename_i l3 hl3
           exact ⟨mk,l,hal2,by rw [hl3,mP hok]⟩
          ·cases hok
         ·cases hpa
       have hself:xW D S t0 h0 p h':=by
        refine .inr ⟨fun m hm=> ?_,fun f hf hal=> ?_⟩
        ·rw [hm] at hrun
         simp only [Op1.run] at hrun
         split at hrun
         ·rename_i v2 hv2
          cases hrun
          rw [hsv]
          exact hv2
         ·cases hrun
        ·rw [hf] at hpa
         simp only [paOf,hal,cond_true] at hpa
         split at hpa
         ·rename_i l mk l2 hget hal2
          obtain ⟨heq,hpa⟩:=bM hpa
          have heq:=mP heq
          subst heq
          exact ⟨mk,l,hal2,hget⟩
         ·cases hpa
       simp only [hsucc] at next
       refine next pa Gf (build (.inr ⟨hgd,by rw [hsv];exact hrun⟩) (by rw [hsucc];exact hself) (fun _ q hq hqp=> ?_)) hb
       rw [hsucc]
       have hql:q < past.length:=by omega
       exact hp q _ (List.getElem?_eq_getElem hql) h' (Bh uY q hq _ (List.getElem?_eq_getElem hql))
end
variable {P:Program}
structure Au (P:Program) (keep:List Nat) (nt:Nat) (ops:Array Oper) (S:Nat->St1) (C:Nat->List Nat) (I:Nat->Nat) (A:Nat->List Nat):Prop where
 mixed:P.follows .mixedOrders=true
 lt:∀p,p < ops.size->I p < ops.size
 onto:∀i,i < ops.size->∃p,p < ops.size/\I p=i
 inj:∀p q,p < ops.size->q < ops.size->I p=I q->p=q
 st:∀p o,p < ops.size->ops[I p]?=some o->YN P keep nt ops o (S p)/\(∀f,(S p).o= .eff f->f.isAlc=true->F7 P keep o f)/\(∀m,(S p).o= .mov m->fV P keep o m)
 edge:∀p o e,p < ops.size->ops[I p]?=some o->e∈o.after->Region.binds .any e=true->∃q,q < p/\I q=e.on
 anc:∀p o q,p < ops.size->ops[I p]?=some o->q∈A p->∃e r,e∈o.after/\Region.binds .any e=true/\r < p/\I r=e.on/\(q=r\/q∈A r)
 bar:∀q p,q < p->p < ops.size->(S q).o.df=false->q∈A p
 reads:∀p q x,p < ops.size->q < ops.size->p≠q->x∈(S p).ods->hits (S q).d x=true->(q∈A p/\q < p)\/(p∈A q/\p < q)
 once:∀p q,p < ops.size->q < ops.size->p≠q->clash (S p).d (S q).d=false
 dsl:∀p i,p < ops.size->(S p).d= .slot i->i < keep.length
 chk:∀p q,p < ops.size->q < p->(S p).o.isMov=false->(S q).o.df=true->(∀b,b<=p->(S b).o.df=false->q∉A b)->q∈C p
section
variable {O:dH} {D:Dp O.X} {w0:World} {keep:List Nat} {nt:Nat} {ds:List Deferred} {m0:Mu} {n0:Nat} {ops:Array Oper} {S:Nat->St1} {C:Nat->List Nat} {I:Nat->Nat} {A:Nat->List Nat} {t0:List AV} {h0:Hp O.X}
theorem DY (hlen:t0.length=keep.length):∀p,(cst D S t0 h0 p).2.1.length=keep.length
 |0=>hlen
 |p+1=>by
  have:=DY hlen p
  show (putT _ _ _).length=_
  cases (S p).d<;>simp only [putT]<;>first|exact this|(rw [uU];exact this)
theorem DZ (hS:Au P keep nt ops S C I A) (hlen:t0.length=keep.length) (x:Od):∀p,p<=ops.size->
  ((∀q,q < p->hits (S q).d x=false)/\x.ev (cst D S t0 h0 p).1 (cst D S t0 h0 p).2.1=x.ev [] t0)\/
  ∃q,q < p/\hits (S q).d x=true/\x.ev (cst D S t0 h0 p).1 (cst D S t0 h0 p).2.1=(sv D (S q) (cst D S t0 h0 q).1 (cst D S t0 h0 q).2.1 (cst D S t0 h0 q).2.2).1
 |0,_=> .inl ⟨fun q hq=>absurd hq (Nat.not_lt_zero _),rfl⟩
 |p+1,hp=>by
  have hput:x.ev (cst D S t0 h0 (p+1)).1 (cst D S t0 h0 (p+1)).2.1=bif hits (S p).d x then (sv D (S p) (cst D S t0 h0 p).1 (cst D S t0 h0 p).2.1 (cst D S t0 h0 p).2.2).1 else x.ev (cst D S t0 h0 p).1 (cst D S t0 h0 p).2.1:=
   Qa (fun i hi=>by rw [DY hlen];exact hS.dsl p i (by omega) hi)
  cases hh:hits (S p).d x with
  |true=>rw [hh] at hput;exact .inr ⟨p,by omega,hh,hput⟩
  |false=>
   rw [hh] at hput
   rcases DZ hS hlen x p (by omega) with ⟨h1,h2⟩|⟨q,h1,h2,h3⟩
   ·exact .inl ⟨fun q hq=>by by_cases e:q=p;(rw [e];exact hh);exact h1 q (by omega),hput.trans h2⟩
   ·exact .inr ⟨q,by omega,h2,hput.trans h3⟩
structure Inv (P:Program) (O:dH) (D:Dp O.X) (w0:World) (keep:List Nat) (nt:Nat) (ds:List Deferred) (m0:Mu) (n0:Nat) (ops:Array Oper) (S:Nat->St1) (I:Nat->Nat) (A:Nat->List Nat) (t0:List AV) (h0:Hp O.X) (L:Nat->Bool) (k:Nat) (e:En) (t:List AV) (listed:Array Bool) (a:Act) (w:World):Prop where
 size:listed.size=ops.size
 lst:∀p,p < ops.size->listed.getD (I p) true=L p/\listed.getD (I p) false=L p
 kle:k<=ops.size
 VE:k=ops.size\/(S k).o.df=false
 low:∀p,p < k->(S p).o.df=false->L p=true
 high:∀p,k<=p->p < ops.size->L p=false
 closed:∀p q,p < ops.size->L p=true->q∈A p->L q=true
 aan:t.length=keep.length
 env:∀x:Od,((∀q,q < ops.size->L q=true->hits (S q).d x=false)/\x.ev e t=x.ev [] t0)\/
  ∃q,q < ops.size/\L q=true/\hits (S q).d x=true/\x.ev e t=(sv D (S q) (cst D S t0 h0 q).1 (cst D S t0 h0 q).2.1 (cst D S t0 h0 q).2.2).1
 YU:∀p,p < k->L p=false->xW D S t0 h0 p (cst D S t0 h0 k).2.2
 mono:∀p,p < k->(cst D S t0 h0 p).2.2.n<=(cst D S t0 h0 (p+1)).2.2.n
 mem:∃m φ,(∀g,g < n0->m g=m0 g)/\n0<=(cst D S t0 h0 k).2.2.n/\SR O w0 w m φ (cst D S t0 h0 k).2.2/\FR m keep nt e t a/\a.defers=ds/\
  (∀p,p < k->L p=false->(S p).o.isAlc=true->gdv (S p).g (cst D S t0 h0 p).1 (cst D S t0 h0 p).2.1=some true->m (cst D S t0 h0 p).2.2.n=none/\n0<=(cst D S t0 h0 p).2.2.n/\(cst D S t0 h0 p).2.2.n < (cst D S t0 h0 k).2.2.n)
theorem I8 (hS:Au P keep nt ops S C I A) (hlen:t0.length=keep.length) {L:Nat->Bool} {k:Nat} {e:En} {t:List AV} {listed:Array Bool} {a:Act} {w:World} (hI:Inv P O D w0 keep nt ds m0 n0 ops S I A t0 h0 L k e t listed a w)
  {p:Nat} (hp:p < ops.size) (hL:L p=false) (Ea:∀q∈A p,L q=true):∀x∈(S p).ods,x.ev e t=x.ev (cst D S t0 h0 p).1 (cst D S t0 h0 p).2.1:=by
 intro x hx
 have ahead:∀q,q < ops.size->hits (S q).d x=true->(L q=true↔q < p):=by
  intro q hq hh
  have hne:p≠q\/p=q:=by omega
  rcases hne with hne|rfl
  ·rcases hS.reads p q x hp hq hne hx hh with ⟨h1,h2⟩|⟨h1,h2⟩
   ·exact ⟨fun _=>h2,fun _=>Ea q h1⟩
   ·refine ⟨fun hq'=> ?_,fun h=>by omega⟩
    have:=hI.closed q p hq hq' h1
    rw [hL] at this;cases this
  ·exact ⟨(fun h=>by rw [hL] at h;cases h),fun h=>absurd h (Nat.lt_irrefl _)⟩
 rcases hI.env x with ⟨h1,h2⟩|⟨q,h1,h2,h3,h4⟩
 ·rcases DZ (h0:=h0) (D:=D) hS hlen x p (by omega) with ⟨g1,g2⟩|⟨q,g1,g2,g3⟩
  ·rw [h2,g2]
  ·have:=h1 q (by omega) ((ahead q (by omega) g2).2 g1)
   rw [g2] at this;cases this
 ·rcases DZ (h0:=h0) (D:=D) hS hlen x p (by omega) with ⟨g1,g2⟩|⟨q',g1,g2,g3⟩
  ·have:=g1 q ((ahead q h1 h3).1 h2)
   rw [h3] at this;cases this
  ·have:q=q':=by
    by_cases e:q=q'
    ·exact e
    ·have:=hS.once q q' h1 (by omega) e
     rw [yU h3 g2] at this;cases this
   subst this
   rw [h4,g3]
theorem NF {s:St1} {e e':En} {t t':List AV} (h:∀x∈s.ods,x.ev e t=x.ev e' t'):gdv s.g e t=gdv s.g e' t':=by
 cases s with
 |mk g d o=>
  cases g with
  |none=>rfl
  |some jw=>
   obtain ⟨j,want⟩:=jw
   simp only [St1.g,gdv]
   rw [h j (by simp [St1.ods,St1.g])]
theorem yA {s:St1} {e e':En} {t t':List AV} (h:∀x∈s.ods,x.ev e t=x.ev e' t'):∀x∈s.o.ods,x.ev e t=x.ev e' t':=fun x hx=>h x (by simp [St1.ods,hx])
theorem SR.ghost {w:World} {m:Mu} {φ:Ph} {h:Hp O.X} (H:SR O w0 w m φ h) (c:AB O.X):SR O w0 w m φ (h.push c):=by
 have hn:=H.lK
 have no:∀{g:Nat} {x:AB O.X},(h.push c).get g=some x->(m g).isSome=true->h.get g=some x:=fun {g x} hg hm=>by
  rcases Hp.fO hg with ⟨rfl,_⟩|⟨_,h'⟩
  ·rw [hn] at hm;cases hm
  ·exact h'
 refine ⟨H.below,fun g x hg p hp=>H.blk g x (no hg (by rw [hp];rfl)) p hp,fun g g' x x' hg hg' hne o o' hm hm'=>H.dis g g' x x' (no hg hm) (no hg' hm') hne o o' hm hm',fun g x hg o hm=>H.fresh g x (no hg hm) o hm,fun g p hp=> ?_⟩
 have:=H.dom g p hp
 show g < h.n+1
 omega
theorem SR.realize {w:World} {m:Mu} {φ:Ph} {h:Hp O.X} (H:SR O w0 w m φ h) {g:Nat} {l:List AV} (hg:h.get g=some (.rw l)) (hm:m g=none) (hlt:g < h.n) {cs:Array Value} {ty:TypeId} {z:Nat} (hv:VRs m l cs.toList) (h1:∀a∈l,a.one=true):
  SR O w0 (w.alloc (.cells cs ty)) (m.set g ⟨w.heap.size,0,cs.size,z⟩) (φ.set g fun k=>k=w.heap.size) h:=by
 have hsz:=H.below.size
 have FI:=Mu.iK hm ⟨w.heap.size,0,cs.size,z⟩
 have hmo:∀g',g'≠g->m.set g ⟨w.heap.size,0,cs.size,z⟩ g'=m g':=fun g' hne=>by simp [Mu.set,hne]
 have hb:Below w.heap.size w (w.alloc (.cells cs ty)):=(Below.refl _ _).alloc (Nat.le_refl _) _
 have old:∀g' c,h.get g'=some c->g'≠g->c.own=true->(m.set g ⟨w.heap.size,0,cs.size,z⟩ g').isSome=true->∀k,φ g' k->k < w.heap.size:=fun g' c hg' hne o hi k hk=>by
  rw [hmo g' hne] at hi
  obtain ⟨p',hp'⟩:=Option.isSome_iff_exists.1 hi
  exact (H.blk g' c hg' p' hp').lt o hk
 have hlen:cs.size=l.length:=by have:=hv.len;simpa using this
 refine ⟨nI H.below (Upd.of_below (S:=dG) hb) (fun b hb=>hb.elim),fun g' c h1' p' hp'=> ?_,fun g1 g2 c1 c2 e1 e2 hne o1 o2 m1 m2 k hk=> ?_,fun g' c e1 o1 m1 k hk=> ?_,fun g' p' hp'=> ?_⟩
 ·by_cases e:g'=g
  ·subst e
   rw [Mu.set_self] at hp';cases hp'
   rw [hg] at h1';cases h1'
   simp only [Ph.set,if_pos]
   refine ⟨cs,ty,(0,0),heap_alloc_new w _, .inl rfl,Nat.le_refl _,by show 0+l.length<=cs.size;omega,fun i v hi=> ?_,fun k=>Iff.rfl,fun _=>rfl⟩
   obtain ⟨v',d1,d2⟩:=hv.get hi
   exact ⟨v',by simpa using d1,d2.ext FI,h1 _ (List.mem_of_getElem? hi)⟩
  ·rw [hmo g' e] at hp'
   simp only [Ph.set,if_neg e]
   exact ((H.blk g' c h1' p' hp').ext FI).same fun ho k hk=>hb.block k ((H.blk g' c h1' p' hp').lt ho hk)
 ·by_cases x1:g1=g
  ·by_cases x2:g2=g
   ·exact absurd (x1.trans x2.symm) hne
   ·simp only [Ph.set,if_pos x1,if_neg x2] at hk ⊢
    intro hk'
    have:=old g2 c2 e2 x2 o2 m2 k hk'
    omega
  ·by_cases x2:g2=g
   ·simp only [Ph.set,if_pos x2,if_neg x1] at hk ⊢
    intro hk'
    have:=old g1 c1 e1 x1 o1 m1 k hk
    omega
   ·rw [hmo g1 x1] at m1
    rw [hmo g2 x2] at m2
    simp only [Ph.set,if_neg x1,if_neg x2] at hk ⊢
    exact H.dis g1 g2 c1 c2 e1 e2 hne o1 o2 m1 m2 k hk
 ·by_cases e:g'=g
  ·simp only [Ph.set,if_pos e] at hk
   omega
  ·simp only [Ph.set,if_neg e] at hk
   rw [hmo g' e] at m1
   exact H.fresh g' c e1 o1 m1 k hk
 ·by_cases e:g'=g
  ·omega
  ·rw [hmo g' e] at hp'
   exact H.dom g' p' hp'
theorem sK {M:Nat} (hG:Good D S C M t0 h0) {p:Nat} (hp:p < M) (hd:(S p).o.df=true):
  ((cst D S t0 h0 (p+1)).2.2=(cst D S t0 h0 p).2.2/\((S p).o.isAlc=true->gdv (S p).g (cst D S t0 h0 p).1 (cst D S t0 h0 p).2.1=some false))\/((S p).o.isAlc=true/\∃c,(cst D S t0 h0 (p+1)).2.2=(cst D S t0 h0 p).2.2.push c):=by
 have e:(cst D S t0 h0 (p+1)).2.2=(sv D (S p) (cst D S t0 h0 p).1 (cst D S t0 h0 p).2.1 (cst D S t0 h0 p).2.2).2:=rfl
 rcases hG.run p hp with h|⟨h1,h2⟩
 ·left
  refine ⟨?_,fun _=>h⟩
  rw [e]
  simp only [sv,h]
 ·cases ho:(S p).o with
  |mov m=>
   left
   refine ⟨?_,fun h=>by cases h⟩
   rw [ho] at h2
   simp only [Op1.run] at h2
   split at h2
   ·simp only [gp.ret.injEq] at h2
    rw [e,<-h2.2]
   ·cases h2
  |eff f=>
   right
   rw [ho] at hd h2
   have hf:f.isAlc=true:=by simpa [Op1.df,Op1.isMov,Op1.isAlc] using hd
   refine ⟨hf, ?_⟩
   simp only [Op1.run,I7 hf] at h2
   split at h2
   ·rename_i v h' heq
    simp only [gp.ret.injEq] at h2
    rw [Option.map_eq_some_iff] at heq
    obtain ⟨x,_,hx⟩:=heq
    simp only [Prod.mk.injEq] at hx
    exact ⟨_,by rw [e,<-h2.2,<-hx.2]⟩
   ·cases h2
  |call f xs=>rw [ho] at hd;cases hd
  |qO f xs=>rw [ho] at hd;cases hd
  |pan x=>rw [ho] at hd;cases hd
theorem qQ {M:Nat} (hG:Good D S C M t0 h0) {j:Nat}:∀{k:Nat},j<=k->k<=M->(∀p,j<=p->p < k->(S p).o.df=true)->(cst D S t0 h0 j).2.2.n<=(cst D S t0 h0 k).2.2.n:=by
 intro k hjk hk hd
 induction k with
 |zero=>
  have e:j=0:=by omega
  rw [e]
  exact Nat.le_refl _
 |succ k ih=>
  by_cases e:j=k+1
  ·subst e;exact Nat.le_refl _
  ·refine Nat.le_trans (ih (by omega) (by omega) (fun p h1 h2=>hd p h1 (by omega))) ?_
   rcases sK hG (p:=k) (by omega) (hd k (by omega) (by omega)) with ⟨h,_⟩|⟨_,c,h⟩
   ·rw [h];exact Nat.le_refl _
   ·rw [h];exact Nat.le_succ _
theorem advance {M:Nat} (hG:Good D S C M t0 h0) {w:World} {m:Mu} {φ:Ph} {j:Nat} (H:SR O w0 w m φ (cst D S t0 h0 j).2.2):∀{k:Nat},j<=k->k<=M->(∀p,j<=p->p < k->(S p).o.df=true)->SR O w0 w m φ (cst D S t0 h0 k).2.2:=by
 intro k hjk hk hd
 induction k with
 |zero=>
  have e:j=0:=by omega
  rw [e] at H
  exact H
 |succ k ih=>
  by_cases e:j=k+1
  ·subst e;exact H
  ·have:=ih (by omega) (by omega) (fun p h1 h2=>hd p h1 (by omega))
   rcases sK hG (p:=k) (by omega) (hd k (by omega) (by omega)) with ⟨h,_⟩|⟨_,c,h⟩
   ·rw [h];exact this
   ·rw [h];exact SR.ghost this c
theorem Eb {M:Nat} (hS:Au P keep nt ops S C I A) (hM:M<=ops.size) (hG:Good D S C M t0 h0) {q j:Nat} (hq:q < j) (hd:(S q).o.df=true) (H:xW D S t0 h0 q (cst D S t0 h0 j).2.2):∀{k:Nat},j<=k->k<=M->(∀b,b < k->(S b).o.df=false->q∉A b)->xW D S t0 h0 q (cst D S t0 h0 k).2.2:=by
 intro k hjk hk hb
 induction k with
 |zero=>omega
 |succ k ih=>
  by_cases e:j=k+1
  ·subst e;exact H
  ·have XM:=ih (by omega) (by omega) (fun b h1 h2=>hb b (by omega) h2)
   rcases hG.run k (by omega) with h|⟨h1,h2⟩
   ·have e2:(cst D S t0 h0 (k+1)).2.2=(cst D S t0 h0 k).2.2:=by
     show (sv D (S k) _ _ _).2=_
     simp only [sv,h]
    rw [e2];exact XM
   ·by_cases hm:(S k).o.isMov=true
    ·have hdf:(S k).o.df=true:=by simp [Op1.df,hm]
     rcases sK hG (p:=k) (by omega) hdf with ⟨h,_⟩|⟨h,_⟩
     ·rw [h];exact XM
     ·exfalso
      cases ho:(S k).o<;>rw [ho] at hm h<;>simp [Op1.isMov,Op1.isAlc] at hm h
    ·exact hG.chk k (by omega) h1 q (hS.chk k q (by omega) (by omega) (by simpa using hm) hd (fun b h3 h4=>hb b (by omega) h4)) (by omega)
def upL (L:Nat->Bool) (p:Nat):Nat->Bool:=fun q=>if q=p then true else L q
theorem Gh (hS:Au P keep nt ops S C I A) {L:Nat->Bool} {k k2:Nat} {e:En} {t:List AV} {listed:Array Bool} {a a2:Act} {w w2:World} (hI:Inv P O D w0 keep nt ds m0 n0 ops S I A t0 h0 L k e t listed a w) {p:Nat} (hp:p < ops.size) (hL:L p=false) (Ea:∀q∈A p,L q=true)
  (hk:k<=k2) (hk2:k2<=ops.size) (hbar:k2=ops.size\/(S k2).o.df=false) (hpk:p < k2) (hmid:∀q,k<=q->q < k2->(S q).o.df=false->q=p)
  (hhigh:∀q,k2<=q->q < ops.size->L q=false)
  (Gf:∀q,q < k2->upL L p q=false->xW D S t0 h0 q (cst D S t0 h0 k2).2.2)
  (hmono:∀q,k<=q->q < k2->(cst D S t0 h0 q).2.2.n<=(cst D S t0 h0 (q+1)).2.2.n)
  (hmem:∃m φ,(∀g,g < n0->m g=m0 g)/\n0<=(cst D S t0 h0 k2).2.2.n/\SR O w0 w2 m φ (cst D S t0 h0 k2).2.2/\FR m keep nt (putE (S p).d (sv D (S p) (cst D S t0 h0 p).1 (cst D S t0 h0 p).2.1 (cst D S t0 h0 p).2.2).1 e) (putT (S p).d (sv D (S p) (cst D S t0 h0 p).1 (cst D S t0 h0 p).2.1 (cst D S t0 h0 p).2.2).1 t) a2/\a2.defers=ds/\
   (∀q,q < k2->upL L p q=false->(S q).o.isAlc=true->gdv (S q).g (cst D S t0 h0 q).1 (cst D S t0 h0 q).2.1=some true->m (cst D S t0 h0 q).2.2.n=none/\n0<=(cst D S t0 h0 q).2.2.n/\(cst D S t0 h0 q).2.2.n < (cst D S t0 h0 k2).2.2.n)):
  Inv P O D w0 keep nt ds m0 n0 ops S I A t0 h0 (upL L p) k2 (putE (S p).d (sv D (S p) (cst D S t0 h0 p).1 (cst D S t0 h0 p).2.1 (cst D S t0 h0 p).2.2).1 e) (putT (S p).d (sv D (S p) (cst D S t0 h0 p).1 (cst D S t0 h0 p).2.1 (cst D S t0 h0 p).2.2).1 t) (listed.setIfInBounds (I p) true) a2 w2:=by
 have hup:∀q,L q=true->upL L p q=true:=fun q h=>by unfold upL;split;rfl;exact h
 refine ⟨by rw [Array.size_setIfInBounds];exact hI.size,fun q hq=> ?_,hk2,hbar,fun q hq hd=> ?_,fun q h1 h2=> ?_,fun q r hq hl hr=> ?_, ?_,fun x=> ?_,Gf,fun q hq=>if h:q < k then hI.mono q h else hmono q (by omega) hq,hmem⟩
 ·have hIp:I p < listed.size:=by rw [hI.size];exact hS.lt p hp
  have hIq:I q < listed.size:=by rw [hI.size];exact hS.lt q hq
  have hget:∀b,(listed.setIfInBounds (I p) true).getD (I q) b=if I p=I q then true else listed.getD (I q) b:=fun b=>by
   rw [Array.getD_eq_getD_getElem?,Array.getD_eq_getD_getElem?,Array.getElem?_setIfInBounds]
   by_cases h:I p=I q
   ·rw [if_pos h,if_pos h];simp [hIp]
   ·rw [if_neg h,if_neg h]
  by_cases h:q=p
  ·subst h
   rw [hget,hget]
   simp [upL]
  ·have hne:I p≠I q:=fun e=>h (hS.inj p q hp hq e).symm
   rw [hget,hget,if_neg hne,if_neg hne]
   have:=hI.lst q hq
   simp only [upL,if_neg h]
   exact this
 ·by_cases h:q < k
  ·exact hup q (hI.low q h hd)
  ·have:=hmid q (by omega) hq hd
   subst this
   simp [upL]
 ·have hne:q≠p:=by omega
  simp only [upL,if_neg hne]
  exact hhigh q h1 h2
 ·by_cases h:q=p
  ·subst h;exact hup r (Ea r hr)
  ·simp only [upL,if_neg h] at hl
   exact hup r (hI.closed q r hq hl hr)
 ·have:=hI.aan
  cases (S p).d<;>simp only [putT]<;>first|exact this|(rw [uU];exact this)
 ·have hput:x.ev (putE (S p).d (sv D (S p) (cst D S t0 h0 p).1 (cst D S t0 h0 p).2.1 (cst D S t0 h0 p).2.2).1 e) (putT (S p).d (sv D (S p) (cst D S t0 h0 p).1 (cst D S t0 h0 p).2.1 (cst D S t0 h0 p).2.2).1 t)=bif hits (S p).d x then (sv D (S p) (cst D S t0 h0 p).1 (cst D S t0 h0 p).2.1 (cst D S t0 h0 p).2.2).1 else x.ev e t:=
   Qa (fun i hi=>by rw [hI.aan];exact hS.dsl p i hp hi)
  cases hh:hits (S p).d x with
  |true=>rw [hh] at hput;exact .inr ⟨p,hp,by simp [upL],hh,hput⟩
  |false=>
   rw [hh] at hput
   rcases hI.env x with ⟨h1,h2⟩|⟨q,h1,h2,h3,h4⟩
   ·refine .inl ⟨fun q hq hl=> ?_,hput.trans h2⟩
    by_cases e:q=p
    ·rw [e];exact hh
    ·simp only [upL,if_neg e] at hl
     exact h1 q hq hl
   ·exact .inr ⟨q,h1,hup q h2,h3,hput.trans h4⟩
theorem yV (S:Nat->St1) (n:Nat):∀(d j:Nat),j+d=n->∃k,j<=k/\k<=n/\(k=n\/(S k).o.df=false)/\∀p,j<=p->p < k->(S p).o.df=true
 |0,j,h=>⟨j,Nat.le_refl _,by omega, .inl (by omega),fun p h1 h2=>by omega⟩
 |d+1,j,h=>by
  cases hd:(S j).o.df with
  |false=>exact ⟨j,Nat.le_refl _,by omega, .inr hd,fun p h1 h2=>by omega⟩
  |true=>
   obtain ⟨k,h1,h2,h3,h4⟩:=yV S n d (j+1) (by omega)
   refine ⟨k,by omega,h2,h3,fun p h5 h6=> ?_⟩
   by_cases e:p=j
   ·rw [e];exact hd
   ·exact h4 p (by omega) h6
end
variable {P:Program}
section
variable {O:dH} {D:Dp O.X} {w0:World} {keep:List Nat} {nt:Nat} {ds:List Deferred} {m0:Mu} {n0:Nat} {ops:Array Oper} {S:Nat->St1} {C:Nat->List Nat} {I:Nat->Nat} {A:Nat->List Nat} {t0:List AV} {h0:Hp O.X}
theorem YV (hS:Au P keep nt ops S C I A):∀(p:Nat),p < ops.size->∀q∈A p,q < p:=by
 intro p
 induction p using Nat.strongRecOn with
 |_ p ih=>
  intro hp q hq
  obtain ⟨o,ho⟩:∃o,ops[I p]?=some o:=⟨_,Array.getElem?_eq_getElem (hS.lt p hp)⟩
  obtain ⟨e,r,_,_,h3,_,h5⟩:=hS.anc p o q hp ho hq
  rcases h5 with rfl|h5
  ·exact h3
  ·have:=ih r h3 (by omega) q h5
   omega
theorem Gi {L:Nat->Bool} {n p:Nat} (hp:p < n) (hL:L p=false):(List.range n).countP (fun q=> !upL L p q)+1<=(List.range n).countP (fun q=> !L q):=by
 induction n with
 |zero=>omega
 |succ n ih=>
  rw [List.range_succ,List.countP_append,List.countP_append]
  by_cases e:p=n
  ·subst e
   have h1:(List.range p).countP (fun q=> !upL L p q)<=(List.range p).countP (fun q=> !L q):=by
    refine List.countP_mono_left fun q _ h=> ?_
    unfold upL at h
    split at h
    ·cases h
    ·exact h
   have h2:[p].countP (fun q=> !upL L p q)=0:=by simp [upL]
   have h3:[p].countP (fun q=> !L q)=1:=by simp [hL]
   omega
  ·have h1:=ih (by omega)
   have h2:[n].countP (fun q=> !upL L p q)=[n].countP (fun q=> !L q):=by
    have:upL L p n=L n:=by unfold upL;rw [if_neg (Ne.symm e)]
    simp [this]
   omega
theorem NG (hS:Au P keep nt ops S C I A) {L:Nat->Bool} {k:Nat} {e:En} {t:List AV} {listed:Array Bool} {a:Act} {w:World} (hI:Inv P O D w0 keep nt ds m0 n0 ops S I A t0 h0 L k e t listed a w) (hr:Region.ready .any ops listed=[]):∀p,p < ops.size->L p=true:=by
 intro p
 induction p using Nat.strongRecOn with
 |_ p ih=>
  intro hp
  cases hL:L p with
  |true=>rfl
  |false=>
   exfalso
   obtain ⟨o,ho⟩:∃o,ops[I p]?=some o:=⟨_,Array.getElem?_eq_getElem (hS.lt p hp)⟩
   have:I p∈Region.ready .any ops listed:=mem_ready.2 ⟨by rw [(hI.lst p hp).1];exact hL,o,ho,fun e he hb=>by
    obtain ⟨q,h1,h2⟩:=hS.edge p o e hp ho he hb
    rw [<-h2,(hI.lst q (by omega)).2]
    exact ih q h1 (by omega)⟩
   rw [hr] at this
   cases this
theorem Qb (hS:Au P keep nt ops S C I A) (hlen:t0.length=keep.length) {L:Nat->Bool} {k:Nat} {e:En} {t:List AV} {listed:Array Bool} {a:Act} {w:World} (hI:Inv P O D w0 keep nt ds m0 n0 ops S I A t0 h0 L k e t listed a w) (hall:∀p,p < ops.size->L p=true):
  QP O w0 keep nt ds m0 n0 (.norm (cst D S t0 h0 ops.size).2.1 (cst D S t0 h0 ops.size).2.2) .normal a w:=by
 have hk:k=ops.size:=by
  rcases hI.VE with h|h
  ·exact h
  ·by_cases hlt:k < ops.size
   ·have h1:=hI.high k (Nat.le_refl _) hlt
    rw [hall k hlt] at h1;cases h1
   ·have:=hI.kle;omega
 subst hk
 obtain ⟨m,φ,h1,h2,h3,h4,h5,_⟩:=hI.mem
 refine ⟨rfl,m,φ,h1,h2,h3,⟨h4.size,DY hlen _,h4.nd,fun d _=>by simp [lookE,VR],fun i d hd=> ?_⟩,h5⟩
 have e1:getS (cst D S t0 h0 ops.size).2.1 i=getS t i:=by
  have hc:=DZ (D:=D) (h0:=h0) hS hlen (.slot i) ops.size (Nat.le_refl _)
  have hv:=hI.env (.slot i)
  simp only [Od.ev] at hc hv
  rcases hc with ⟨g1,g2⟩|⟨q,g1,g2,g3⟩
  ·rcases hv with ⟨v1,v2⟩|⟨r,v1,v2,v3,v4⟩
   ·rw [g2,v2]
   ·have:=g1 r v1;rw [v3] at this;cases this
  ·rcases hv with ⟨v1,v2⟩|⟨r,v1,v2,v3,v4⟩
   ·have:=v1 q g1 (hall q g1);rw [g2] at this;cases this
   ·have:q=r:=by
     by_cases e:q=r
     ·exact e
     ·have:=hS.once q r g1 v1 e
      rw [yU g2 v3] at this;cases this
    subst this
    rw [g3,v4]
 rw [e1]
 exact h4.slot i d hd
theorem nO {m:Mu} {e:En} {t:List AV} {a:Act} (f:FR m keep nt e t a) {o:Oper} {g:Option (Od×Bool)} {b:Bool}
  (hg:(o.guard=none/\g=none)\/∃j want d od,o.guard=some (j,want)/\g=some (od,want)/\(ops[j]?).bind (·.dst)=some d/\odOf keep (.tmp d)=some od) (h:gdv g e t=some b):Region.wanted o (yielded ops a.tmps)=b:=by
 rcases hg with ⟨hg,rfl⟩|⟨j,want,d,od,hg,rfl,hj,hod⟩
 ·cases h;simp [Region.wanted,hg]
 ·simp only [gdv] at h
  split at h
  ·rename_i c hc
   cases h
   have hy:=yP f hj hod hc
   simp only [Region.wanted,hg,hy]
   rw [Bool.eq_iff_iff]
   simp
  ·rename_i l hc
   cases h
   have hy:=Bd f hj hod hc
   simp only [Region.wanted,hg,hy]
   simp
  ·cases h
theorem KX {k:Nat} {n:Nat->Nat} (H:∀p,p < k->n p<=n (p+1)) {j:Nat}:∀{i:Nat},j<=i->i<=k->n j<=n i:=by
 intro i h1 h2
 induction i with
 |zero=>
  have e:j=0:=by omega
  rw [e]
  exact Nat.le_refl _
 |succ i ih=>
  by_cases e:j=i+1
  ·rw [e];exact Nat.le_refl _
  ·exact Nat.le_trans (ih (by omega) (by omega)) (H i (by omega))
set_option maxHeartbeats 1000000 in
theorem YW (hD:DS P O D) (hS:Au P keep nt ops S C I A) {M:Nat} {Z:R O.X} (hM:M<=ops.size) (hZ:(M=ops.size/\Z= .norm (cst D S t0 h0 ops.size).2.1 (cst D S t0 h0 ops.size).2.2)\/(M < ops.size/\∃v h',gdv (S M).g (cst D S t0 h0 M).1 (cst D S t0 h0 M).2.1=some true/\(S M).o.run D (cst D S t0 h0 M).1 (cst D S t0 h0 M).2.1 (cst D S t0 h0 M).2.2= .panic v h'/\∃tz:List AV,tz.length=keep.length/\(∀i,((∀q,q < ops.size->hits (S q).d (.slot i)=false)/\getS tz i=getS t0 i)\/getS tz i= .bot)/\Z= .panic v tz h')) (hG:Good D S C M t0 h0) (hlen:t0.length=keep.length):∀(fuel:Nat) (L:Nat->Bool) (k:Nat) (e:En) (t:List AV) (listed:Array Bool) (a:Act) (w:World),k<=M->
  Inv P O D w0 keep nt ds m0 n0 ops S I A t0 h0 L k e t listed a w->(List.range ops.size).countP (fun q=> !L q)<=fuel->
  wpAny P .any ops (QP O w0 keep nt ds m0 n0 Z) fuel listed a w:=by
 have hMd:M < ops.size->(S M).o.df=false:=fun hlt=>by
  rcases hZ with ⟨h,_⟩|⟨_,v,h',_,h2,_⟩
  ·omega
  ·cases ho:(S M).o<;>rw [ho] at h2<;>first|rfl|(simp only [Op1.run] at h2;split at h2<;>cases h2)
 have fin:∀{L:Nat->Bool} {k:Nat} {e:En} {t:List AV} {listed:Array Bool} {a:Act} {w:World},k<=M->Inv P O D w0 keep nt ds m0 n0 ops S I A t0 h0 L k e t listed a w->(∀p,p < ops.size->L p=true)->QP O w0 keep nt ds m0 n0 Z .normal a w:=fun hkM hI hall=>by
  rcases hZ with ⟨_,hZ⟩|⟨h,_⟩
  ·rw [hZ];exact Qb hS hlen hI hall
  ·have h1:=hI.high M hkM h
   rw [hall M h] at h1;cases h1
 intro fuel
 induction fuel with
 |zero=>
  intro L k e t listed a w hkM hI hc
  have hall:∀p,p < ops.size->L p=true:=fun p hp=>by
   cases hL:L p with
   |true=>rfl
   |false=>
    have:=Gi hp hL
    omega
  refine ⟨?_,fin hkM hI hall⟩
  rw [List.eq_nil_iff_forall_not_mem]
  intro i hi
  obtain ⟨h1,o,ho,_⟩:=mem_ready.1 hi
  obtain ⟨p,hp,rfl⟩:=hS.onto i (Array.getElem?_eq_some_iff.1 ho).1
  rw [(hI.lst p hp).1,hall p hp] at h1
  cases h1
 |succ fuel ih=>
  intro L k e t listed a w hkM hI hc
  refine ⟨fun hr=>fin hkM hI (NG hS hI hr),fun i hi=> ?_⟩
  obtain ⟨h1,o,ho,aao⟩:=mem_ready.1 hi
  obtain ⟨p,hp,rfl⟩:=hS.onto i (Array.getElem?_eq_some_iff.1 ho).1
  have hL:L p=false:=by rw [<-(hI.lst p hp).1];exact h1
  have Ea:∀q∈A p,L q=true:=fun q hq=>by
   obtain ⟨e,r,he,hb,hr,hre,h5⟩:=hS.anc p o q hp ho hq
   have hLr:L r=true:=by rw [<-(hI.lst r (by omega)).2,hre];exact aao e he hb
   rcases h5 with rfl|h5
   ·exact hLr
   ·exact hI.closed r q (by omega) hLr h5
  obtain ⟨hst,abJ,hmov⟩:=hS.st p o hp ho
  obtain ⟨g,pp,hSp,hop,hdst,hgd⟩:=hst.ok
  have hx:=I8 hS hlen hI hp hL Ea
  have hgc:=NF hx
  have hcount:=Gi hp hL
  have hSg:(S p).g=g:=by rw [hSp];rfl
  have hSd:(S p).d=dsOf keep o.dst:=by rw [hSp];rfl
  have hSo:(S p).o=pp:=by rw [hSp];rfl
  obtain ⟨m,φ,b1,b2,b3,b4,b5,b6⟩:=hI.mem
  have hdef:∀v',(a.put o.dst v').defers=ds:=fun v'=>by cases o.dst<;>exact b5
  unfold wpOp
  simp only [ho]
  by_cases hpk:p < k
  ·
   have hdf:(S p).o.df=true:=by
    cases h:(S p).o.df with
    |true=>rfl
    |false=>have:=hI.low p hpk h;rw [hL] at this;cases this
   have go:∀(m2:Mu) (φ2:Ph) (w2:World) (v':Value),(∀g,g < n0->m2 g=m0 g)->SR O w0 w2 m2 φ2 (cst D S t0 h0 k).2.2->Ext m m2->(∀g,g≠(cst D S t0 h0 p).2.2.n->m2 g=m g)->
     VR m2 (sv D (S p) (cst D S t0 h0 p).1 (cst D S t0 h0 p).2.1 (cst D S t0 h0 p).2.2).1 v'->(∀q,q < k->upL L p q=false->(S q).o.isAlc=true->gdv (S q).g (cst D S t0 h0 q).1 (cst D S t0 h0 q).2.1=some true->m2 (cst D S t0 h0 q).2.2.n=none)->
     wpAny P .any ops (QP O w0 keep nt ds m0 n0 Z) fuel (listed.setIfInBounds (I p) true) (a.put o.dst v') w2:=by
    intro m2 φ2 w2 v' c1 c2 c3 c4 c5 c6
    refine ih _ _ _ _ _ _ _ hkM (Gh (a2:=a.put o.dst v') (w2:=w2) hS hI hp hL Ea (Nat.le_refl k) hI.kle hI.VE hpk (fun q h1 h2=>by omega) hI.high (fun q h1 h2=> ?_) (fun q h1 h2=>by omega) ?_) (by omega)
    ·have hne:q≠p:=fun e=>by subst e;simp [upL] at h2
     simp only [upL,if_neg hne] at h2
     exact hI.YU q h1 h2
    ·refine ⟨m2,φ2,c1,b2,c2, ?_,hdef v',fun q h1 h2 h3 h4=> ?_⟩
     ·rw [hSd]
      exact (b4.ext c3).put hdst c5
     ·have hne:q≠p:=fun e=>by subst e;simp [upL] at h2
      have h2':=h2
      simp only [upL,if_neg hne] at h2'
      exact ⟨c6 q h1 h2 h3 h4,(b6 q h1 h2' h3 h4).2⟩
   have I9:∀q,q < k->upL L p q=false->(S q).o.isAlc=true->gdv (S q).g (cst D S t0 h0 q).1 (cst D S t0 h0 q).2.1=some true->m (cst D S t0 h0 q).2.2.n=none:=fun q h1 h2 h3 h4=>by
    have hne:q≠p:=fun e=>by subst e;simp [upL] at h2
    simp only [upL,if_neg hne] at h2
    exact (b6 q h1 h2 h3 h4).1
   rcases hG.run p (by omega) with hsk|⟨hgt,hrun⟩
   ·have hwant:Region.wanted o (yielded ops a.tmps)=false:=nO b4 hgd (by rw [<-hSg,hgc];exact hsk)
    rw [if_neg (by rw [hwant];decide)]
    exact go m φ w undef b1 b3 (Ext.refl _) (fun _ _=>rfl) (by simp only [sv,hsk];exact DT _) I9
   ·have hwant:Region.wanted o (yielded ops a.tmps)=true:=nO b4 hgd (by rw [<-hSg,hgc];exact hgt)
    rw [if_pos hwant]
    left
    have Gf:=hI.YU p hpk hL
    unfold Oper.wp
    rcases Gf with aap|⟨abK,abL⟩
    ·rw [hgt] at aap;cases aap
    ·cases hoo:(S p).o with
     |mov mv=>
      have h2:=abK mv hoo
      rw [<-Mv.congr (fun x hxx=>yA hx x (by rw [hoo];exact hxx))] at h2
      obtain ⟨v',h3,h4⟩:=hmov mv hoo b3 b4 h2
      rw [h4]
      exact go m φ w v' b1 b3 (Ext.refl _) (fun _ _=>rfl) h3 I9
     |eff f=>
      have hal:f.isAlc=true:=by rw [hoo] at hdf;simpa [Op1.df,Op1.isMov,Op1.isAlc] using hdf
      obtain ⟨mk,l,ha1,ha2⟩:=abL f hoo hal
      have ha3:f.alc e t=some (mk,l):=by rw [NC hal (fun x hxx=>yA hx x (by rw [hoo];exact hxx))];exact ha1
      obtain ⟨cs,ty,v',z,r1,r2,r3,r4⟩:=abJ f hoo hal w b4 ha3
      obtain ⟨q1,q2,q3⟩:=b6 p hpk hL (by rw [hoo];exact hal) hgt
      have hV:(sv D (S p) (cst D S t0 h0 p).1 (cst D S t0 h0 p).2.1 (cst D S t0 h0 p).2.2).1=mk (cst D S t0 h0 p).2.2.n:=by
       rw [hoo] at hrun
       simp only [Op1.run,I7 hal,ha1,Option.map_some,gp.ret.injEq] at hrun
       exact hrun.1.symm
      rw [r1]
      refine go _ _ _ v' (fun g hg=> ?_) (SR.realize (z:=z) b3 ha2 q1 q3 r2 r3) (Mu.iK q1 _) (fun g hg=>by simp [Mu.set,hg]) (by rw [hV];exact r4 _ _ (Mu.set_self _ _ _)) (fun q h1 h2 h3 h4=> ?_)
      ·rw [<-b1 g hg];simp [Mu.set];omega
      ·have:=I9 q h1 h2 h3 h4
       have hne:q≠p:=fun e=>by subst e;simp [upL] at h2
       have step:∀r,r < k->L r=false->(S r).o.isAlc=true->gdv (S r).g (cst D S t0 h0 r).1 (cst D S t0 h0 r).2.1=some true->(cst D S t0 h0 r).2.2.n < (cst D S t0 h0 (r+1)).2.2.n:=fun r e1 e2 e3 e4=>by
        rcases sK hG (p:=r) (by omega) (by simp [Op1.df,e3]) with ⟨_,h⟩|⟨_,c,h⟩
        ·rw [h e3] at e4;cases e4
        ·rw [h];exact Nat.lt_succ_self _
       have hnn:(cst D S t0 h0 q).2.2.n≠(cst D S t0 h0 p).2.2.n:=by
        have h2':=h2
        simp only [upL,if_neg hne] at h2'
        by_cases hqp:q < p
        ·have s1:=step q h1 h2' h3 h4
         have s2:=KX (n:=fun x=>(cst D S t0 h0 x).2.2.n) hI.mono (j:=q+1) (i:=p) hqp (by omega)
         omega
        ·have s1:=step p hpk hL (by rw [hoo];exact hal) hgt
         have s2:=KX (n:=fun x=>(cst D S t0 h0 x).2.2.n) hI.mono (j:=p+1) (i:=q) (by omega) (by omega)
         omega
       simp [Mu.set,hnn,this]
     |call f xs=>rw [hoo] at hdf;cases hdf
     |qO f xs=>rw [hoo] at hdf;cases hdf
     |pan x=>rw [hoo] at hdf;cases hdf
  ·
   have hpk':p=k:=by
    by_cases e:p=k
    ·exact e
    ·exfalso
     have hkn:k < ops.size:=by omega
     have hkb:(S k).o.df=false:=by rcases hI.VE with h|h;omega;exact h
     have h2:=Ea k (hS.bar k p (by omega) hp hkb)
     rw [hI.high k (Nat.le_refl _) hkn] at h2
     cases h2
   subst hpk'
   have hkb:(S p).o.df=false:=by rcases hI.VE with h|h;omega;exact h
   by_cases hpM:p=M
   ·
    rcases hZ with ⟨h,_⟩|⟨_,v,h',hgt,hrun,tz,hzl,hzt,hZ⟩
    ·omega
    rw [<-hpM] at hgt hrun
    have hwant:Region.wanted o (yielded ops a.tmps)=true:=nO b4 hgd (by rw [<-hSg,hgc];exact hgt)
    rw [if_pos hwant]
    left
    rw [<-Op1.congr (yA hx)] at hrun
    rw [hSo] at hrun
    refine hop hD b3 b4 (by rw [hrun];intro h;cases h) _ _ (fun v h' hv=>by rw [hrun] at hv;cases hv) (fun v2 h2 hv m' φ' w' v' g1 g2 g3 g4=> ?_)
    rw [hrun] at hv
    simp only [gp.panic.injEq] at hv
    obtain ⟨rfl,rfl⟩:=hv
    rw [hZ]
    have b4':=b4.ext (qN b3 g1)
    refine ⟨v',m',φ',rfl,g4,fun g hg=>by rw [g1 g (by omega),b1 g hg],by omega,g3,⟨b4'.size,hzl,b4'.nd,fun d _=>by simp [lookE,VR],fun i d hd=> ?_⟩,b5⟩
    rcases hzt i with ⟨h1,h2⟩|h2
    ·rw [h2]
     have hv:=hI.env (.slot i)
     simp only [Od.ev] at hv
     rcases hv with ⟨v1,v2⟩|⟨r,v1,v2,v3,v4⟩
     ·rw [<-v2];exact b4'.slot i d hd
     ·rw [h1 r v1] at v3;cases v3
    ·rw [h2];simp [VR]
   obtain ⟨k2,n1,n2,n3,n4⟩:=yV S ops.size (ops.size - (p+1)) (p+1) (by omega)
   have n2':=n2
   have n2:k2<=M:=by
    by_cases hlt:M < ops.size
    ·by_cases h:k2<=M
     ·exact h
     ·have:=n4 M (by omega) (by omega);rw [hMd hlt] at this;cases this
    ·omega
   have abM:∀q,q < k2->upL L p q=false->∀b,b < k2->(S b).o.df=false->q∉A b:=by
    intro q hq hu b hb hbd hqa
    have hne:q≠p:=fun e=>by subst e;simp [upL] at hu
    simp only [upL,if_neg hne] at hu
    have hbp:b<=p:=by
     by_cases h:b<=p
     ·exact h
     ·have:=n4 b (by omega) hb;rw [hbd] at this;cases this
    have hqb:=YV hS b (by omega) q hqa
    by_cases hbe:b=p
    ·subst hbe
     rw [Ea q hqa] at hu;cases hu
    ·have:=hI.closed b q (by omega) (hI.low b (by omega) hbd) hqa
     rw [this] at hu;cases hu
   have go:∀(m2:Mu) (φ2:Ph) (w2:World) (v':Value),(∀g,g < n0->m2 g=m0 g)->n0<=(cst D S t0 h0 (p+1)).2.2.n->(cst D S t0 h0 p).2.2.n<=(cst D S t0 h0 (p+1)).2.2.n->SR O w0 w2 m2 φ2 (cst D S t0 h0 (p+1)).2.2->Ext m m2->(∀g,g < (cst D S t0 h0 p).2.2.n->m2 g=m g)->
     VR m2 (sv D (S p) (cst D S t0 h0 p).1 (cst D S t0 h0 p).2.1 (cst D S t0 h0 p).2.2).1 v'->
     wpAny P .any ops (QP O w0 keep nt ds m0 n0 Z) fuel (listed.setIfInBounds (I p) true) (a.put o.dst v') w2:=by
    intro m2 φ2 w2 v' c1 c0 c00 c2 c3 c4 c5
    have hmono:=qQ hG (j:=p+1) (k:=k2) n1 n2 n4
    refine ih _ _ _ _ _ _ _ n2 (Gh (k2:=k2) (a2:=a.put o.dst v') (w2:=w2) hS hI hp hL Ea (by omega) n2' n3 (by omega) (fun q h1 h2 h3=> ?_) (fun q h1 h2=>hI.high q (by omega) h2) (fun q h1 h2=> ?_) (fun q h1 h2=> ?_) ?_) (by omega)
    ·by_cases e:q=p
     ·exact e
     ·have:=n4 q (by omega) h2;rw [h3] at this;cases this
    ·have hne:q≠p:=fun e=>by subst e;simp [upL] at h2
     have hnb:=abM q h1 h2
     simp only [upL,if_neg hne] at h2
     by_cases hqp:q < p
     ·have hqd:(S q).o.df=true:=by
       cases h:(S q).o.df with
       |true=>rfl
       |false=>have:=hI.low q hqp h;rw [h2] at this;cases this
      exact Eb hS hM hG hqp hqd (hI.YU q hqp h2) (by omega) n2 hnb
     ·exact Eb hS hM hG (Nat.lt_succ_self q) (n4 q (by omega) h1) (hG.self q (by omega)) (by omega) n2 hnb
    ·by_cases e:q=p
     ·rw [e];exact c00
     ·exact qQ hG (j:=q) (k:=q+1) (by omega) (by omega) (fun r h5 h6=>n4 r (by omega) (by omega))
    ·refine ⟨m2,φ2,c1,by omega,advance hG c2 n1 n2 n4, ?_,hdef v',fun q h1 h2 h3 h4=> ?_⟩
     ·rw [hSd]
      exact (b4.ext c3).put hdst c5
     ·have hne:q≠p:=fun e=>by subst e;simp [upL] at h2
      simp only [upL,if_neg hne] at h2
      by_cases hqp:q < p
      ·obtain ⟨d1,d2,d3⟩:=b6 q hqp h2 h3 h4
       exact ⟨by rw [c4 _ d3];exact d1,d2,by omega⟩
      ·have hge:=qQ hG (j:=p+1) (k:=q) (by omega) (by omega) (fun r h5 h6=>n4 r h5 (by omega))
       have hlt:(cst D S t0 h0 q).2.2.n < (cst D S t0 h0 (q+1)).2.2.n:=by
        rcases sK hG (p:=q) (by omega) (n4 q (by omega) h1) with ⟨_,h⟩|⟨_,c,h⟩
        ·rw [h h3] at h4;cases h4
        ·rw [h];exact Nat.lt_succ_self _
       have abN:=qQ hG (j:=q+1) (k:=k2) (by omega) n2 (fun r h5 h6=>n4 r (by omega) h6)
       refine ⟨?_,by omega,by omega⟩
       cases hm:m2 (cst D S t0 h0 q).2.2.n with
       |none=>rfl
       |some pl=>have:=c2.dom _ _ hm;omega
   rcases hG.run p (by omega) with hsk|⟨hgt,hrun⟩
   ·have hwant:Region.wanted o (yielded ops a.tmps)=false:=nO b4 hgd (by rw [<-hSg,hgc];exact hsk)
    rw [if_neg (by rw [hwant];decide)]
    have e2:(cst D S t0 h0 (p+1)).2.2=(cst D S t0 h0 p).2.2:=by
     show (sv D (S p) _ _ _).2=_
     simp only [sv,hsk]
    exact go m φ w undef b1 (by rw [e2];exact b2) (by rw [e2];exact Nat.le_refl _) (by rw [e2];exact b3) (Ext.refl _) (fun _ _=>rfl) (by simp only [sv,hsk];exact DT _)
   ·have hwant:Region.wanted o (yielded ops a.tmps)=true:=nO b4 hgd (by rw [<-hSg,hgc];exact hgt)
    rw [if_pos hwant]
    left
    have e2:(cst D S t0 h0 (p+1)).2.2=(sv D (S p) (cst D S t0 h0 p).1 (cst D S t0 h0 p).2.1 (cst D S t0 h0 p).2.2).2:=rfl
    rw [<-Op1.congr (yA hx)] at hrun
    rw [hSo] at hrun
    refine hop hD b3 b4 (by rw [hrun];intro h;cases h) _ _ (fun v h' hv m' φ' w' v' g1 g2 g3 g4=> ?_) (fun v h' hv=>by rw [hrun] at hv;cases hv)
    rw [hrun] at hv
    simp only [gp.ret.injEq] at hv
    obtain ⟨rfl,rfl⟩:=hv
    rw [<-e2] at g2 g3
    exact go m' φ' w' v' (fun g hg=>by rw [g1 g (by omega),b1 g hg]) (by omega) g2 g3 (qN b3 g1) g1 g4
end
variable {P:Program}
def YX (P:Program) (keep:List Nat) (o:Oper):Bool:=match opOf P keep o with|some (.mov _)=>true|_=>false
def YY (P:Program) (keep:List Nat) (o:Oper):Bool:=match opOf P keep o with|some (.eff f)=>f.isAlc|_=>false
def ordGo (mv al:Array Bool) (ops:Array Oper):Nat->Array Bool->List Nat
 |0,_=>[]
 |n+1,l=>
  let rs:=Region.ready .any ops l
  match rs.find? (fun i=>mv.getD i false) with
  |some i=>i::ordGo mv al ops n (l.setIfInBounds i true)
  |none=>match rs.find? (fun i=>al.getD i false) with
   |some i=>i::ordGo mv al ops n (l.setIfInBounds i true)
   |none=>match rs with
    |[]=>[]
    |i::_=>i::ordGo mv al ops n (l.setIfInBounds i true)
def XN (P:Program) (keep:List Nat) (ops:Array Oper):List Nat:=
 ordGo (ops.map (YX P keep)) (ops.map (YY P keep)) ops ops.size (Array.replicate ops.size false)
def stsOf (P:Program) (keep:List Nat) (nt:Nat) (ops:Array Oper):List Nat->Option (List St1)
 |[]=>some []
 |i::l=>match (ops[i]?).bind (stOf P keep nt ops),stsOf P keep nt ops l with
  |some s,some r=>some (s::r)
  |_,_=>none
def mem (l:List Nat) (x:Nat):Bool:=l.any (Nat.beq x)
def Qc:List Nat->List Nat->List Nat
 |[],acc=>acc
 |x::l,acc=>Qc l (bif mem acc x then acc else acc++[x])
def ancGo (ops:Array Oper) (ord:List Nat):List Nat->List (List Nat)->List (List Nat)
 |[],acc=>acc
 |i::l,acc=>
  let es:=match ops[i]? with|some o=>o.after.toList|none=>[]
  ancGo ops ord l (acc++[es.foldl (fun a e=>bif Region.binds .any e then (let q:=ord.findIdx (Nat.beq e.on);Qc (q::acc.getD q []) a) else a) []])
def dflt:St1:= .mk none .none (.pan (.const .bot))
def XO (S:Nat->St1) (A:Nat->List Nat) (p:Nat):List Nat:=
 bif (S p).o.isMov then [] else (List.range p).filter fun q=>(S q).o.df && !((List.range (p+1)).any fun b=> !(S b).o.df && mem (A b) q)
def allB (n:Nat) (f:Nat->Bool):Bool:=(List.range n).all f
def drChk (P:Program) (keep:List Nat) (ops:Array Oper) (S:Nat->St1) (C:Nat->List Nat) (I:Nat->Nat) (A:Nat->List Nat):Bool:=
 P.follows .mixedOrders &&
 (allB ops.size fun p=>
  Nat.blt (I p) ops.size && ((List.range ops.size).any fun q=>Nat.beq (I q) p) &&
  (match (S p).d with| .slot i=>Nat.blt i keep.length|_=>true) &&
  (match ops[I p]? with
   |some o=>
    (o.after.toList.all fun e=> !(Region.binds .any e)||((List.range p).any fun q=>Nat.beq (I q) e.on)) &&
    ((A p).all fun q=>o.after.toList.any fun e=>Region.binds .any e && ((List.range p).any fun r=>Nat.beq (I r) e.on && (Nat.beq q r||mem (A r) q)))
   |none=>true) &&
  (allB ops.size fun q=>
   Nat.beq p q||(
    !(Nat.beq (I p) (I q)) && !(clash (S p).d (S q).d) &&
    ((S p).ods.all fun x=> !(hits (S q).d x)||(mem (A p) q && Nat.blt q p)||(mem (A q) p && Nat.blt p q)) &&
    (!(Nat.blt q p)||(((S q).o.df||mem (A p) q) &&
     ((S p).o.isMov|| !(S q).o.df||((List.range (p+1)).any fun b=> !(S b).o.df && mem (A b) q)||mem (C p) q))))))
theorem wS {l:List Nat} {x:Nat} (h:mem l x=true):x∈l:=by
 obtain ⟨y,h1,h2⟩:=List.any_eq_true.1 h
 rw [Nat.eq_of_beq_eq_true h2];exact h1
theorem KY {n:Nat} {f:Nat->Bool} (h:allB n f=true) {p:Nat} (hp:p < n):f p=true:=List.all_eq_true.1 h p (List.mem_range.2 hp)
theorem sN {n:Nat} {f:Nat->Bool} (h:(List.range n).any f=true):∃q,q < n/\f q=true:=by
 obtain ⟨q,h1,h2⟩:=List.any_eq_true.1 h
 exact ⟨q,List.mem_range.1 h1,h2⟩
theorem KZ {keep:List Nat} {nt:Nat} {ops:Array Oper}:∀{l:List Nat} {r:List St1},stsOf P keep nt ops l=some r->r.length=l.length/\∀(p i:Nat),l[p]?=some i->∃s o,r[p]?=some s/\ops[i]?=some o/\stOf P keep nt ops o=some s
 |[],r,h=>by cases h;exact ⟨rfl,fun p i hp=>by simp at hp⟩
 |j::l,r,h=>by
  simp only [stsOf] at h
  split at h
  ·rename_i s r' h1 h2
   cases h
   obtain ⟨k1,k2⟩:=KZ h2
   refine ⟨by simp [k1],fun p i hp=> ?_⟩
   cases p with
   |zero=>
    simp at hp
    subst hp
    obtain ⟨o,h3,h4⟩:=Option.bind_eq_some_iff.1 h1
    exact ⟨s,o,rfl,h3,h4⟩
   |succ p=>exact k2 p i (by simpa using hp)
  ·cases h
theorem XP {keep:List Nat} {nt:Nat} {ops:Array Oper} {o:Oper} {s:St1} (h:stOf P keep nt ops o=some s):opOf P keep o=some s.o:=by
 unfold stOf at h
 split at h
 ·rename_i p g hp hg
  split at h
  ·cases h;exact hp
  ·cases h
 ·cases h
theorem VF {keep:List Nat} {nt:Nat} {ops:Array Oper} {S:Nat->St1} {C:Nat->List Nat} {I:Nat->Nat} {A:Nat->List Nat}
  (hst:∀p,p < ops.size->∀o,ops[I p]?=some o->stOf P keep nt ops o=some (S p)) (h:drChk P keep ops S C I A=true):Au P keep nt ops S C I A:=by
 unfold drChk at h
 rw [Bool.and_eq_true] at h
 obtain ⟨h0,h⟩:=h
 have H:=fun p (hp:p < ops.size)=>KY h hp
 simp only [Bool.and_eq_true] at H
 have two:∀p q,p < ops.size->q < ops.size->p≠q->_:=fun p q hp hq hne=>by
  have:=KY (H p hp).2 hq
  rw [tY hne,Bool.false_or] at this
  simp only [Bool.and_eq_true] at this
  exact this
 refine ⟨h0,fun p hp=> ?_,fun i hi=> ?_,fun p q hp hq he=> ?_,fun p o hp ho=> ?_,fun p o e hp ho he hb=> ?_,fun p o q hp ho hq=> ?_,fun q p hqp hp hd=> ?_,fun p q x hp hq hne hx hh=> ?_,fun p q hp hq hne=> ?_,fun p i hp hd=> ?_,fun p q hp hqp hm hd hno=> ?_⟩
 ·exact Nat.le_of_ble_eq_true (H p hp).1.1.1.1
 ·obtain ⟨q,h1,h2⟩:=sN (H i hi).1.1.1.2
  exact ⟨q,h1,Nat.eq_of_beq_eq_true h2⟩
 ·by_cases hne:p=q
  ·exact hne
  ·have:=(two p q hp hq hne).1.1.1
   rw [he,Nat.beq_refl] at this
   cases this
 ·have:=hst p hp o ho
  refine ⟨XL this,fun f hf hal=> ?_,fun m hm=> ?_⟩
  ·exact YR (by rw [XP this,hf]) hal
  ·exact P7 (by rw [XP this,hm])
 ·have:=(H p hp).1.2
  rw [ho] at this
  simp only [Bool.and_eq_true] at this
  have:=List.all_eq_true.1 this.1 e (Array.mem_toList_iff.2 he)
  rw [hb] at this
  simp only [Bool.not_true,Bool.false_or] at this
  obtain ⟨q,h1,h2⟩:=sN this
  exact ⟨q,h1,Nat.eq_of_beq_eq_true h2⟩
 ·have:=(H p hp).1.2
  rw [ho] at this
  simp only [Bool.and_eq_true] at this
  have:=List.all_eq_true.1 this.2 q hq
  obtain ⟨e,he,h2⟩:=List.any_eq_true.1 this
  rw [Bool.and_eq_true] at h2
  obtain ⟨hb,h2⟩:=h2
  obtain ⟨r,h3,h4⟩:=sN h2
  rw [Bool.and_eq_true,Bool.or_eq_true] at h4
  exact ⟨e,r,Array.mem_toList_iff.1 he,hb,h3,Nat.eq_of_beq_eq_true h4.1,h4.2.imp Nat.eq_of_beq_eq_true wS⟩
 ·have:=(two p q hp (by omega) (by omega)).2
  rw [(show Nat.blt q p=true by rw [Nat.blt_eq];exact hqp),hd] at this
  simp only [Bool.not_true,Bool.false_or,Bool.and_eq_true] at this
  exact wS this.1
 ·have:=List.all_eq_true.1 (two p q hp hq hne).1.2 x hx
  rw [hh] at this
  simp only [Bool.not_true,Bool.false_or,Bool.or_eq_true,Bool.and_eq_true,Nat.blt_eq] at this
  exact this.imp (fun h=>⟨wS h.1,h.2⟩) (fun h=>⟨wS h.1,h.2⟩)
 ·simpa using (two p q hp hq hne).1.1.2
 ·have:=(H p hp).1.1.2
  rw [hd] at this
  simpa using this
 ·have:=(two p q hp (by omega) (by omega)).2
  rw [(show Nat.blt q p=true by rw [Nat.blt_eq];exact hqp),hm,hd] at this
  simp only [Bool.not_true,Bool.false_or,Bool.and_eq_true,Bool.or_eq_true] at this
  rcases this.2 with h|h
  ·obtain ⟨b,h1,h2⟩:=sN h
   rw [Bool.and_eq_true] at h2
   exact absurd (wS h2.2) (hno b (by omega) (by simpa using h2.1))
  ·exact wS h
def drOf (P:Program) (keep:List Nat) (nt:Nat) (ops:Array Oper):Option Dr:=
 let ord:=XN P keep ops
 match stsOf P keep nt ops ord with
 |some sts=>
  let anc:=ancGo ops ord ord []
  let S:=fun p=>sts.getD p dflt
  let A:=fun p=>anc.getD p []
  let ch:=(List.range ops.size).map (XO S A)
  bif Nat.beq ord.length ops.size && drChk P keep ops S (fun p=>ch.getD p []) (fun p=>ord.getD p 0) A then some (sts.zip ch) else none
 |none=>none
set_option maxHeartbeats 1000000 in
theorem La {keep:List Nat} {nt:Nat} {ops:Array Oper} {id:Nat} {r:Dr} (h:drOf P keep nt ops=some r):Vs P keep nt (fun D=>drR D) (.region id ops true) r:=by
 unfold drOf at h
 simp only at h
 generalize XN P keep ops=ord at h
 split at h
 case h_2=>cases h
 rename_i sts abO
 generalize ancGo ops ord ord []=anc at h
 generalize hch:(List.range ops.size).map (XO (fun p=>sts.getD p dflt) (fun p=>anc.getD p []))=ch at h
 obtain ⟨h1,h2⟩:=bM h
 cases h2
 rw [Bool.and_eq_true] at h1
 obtain ⟨hlo,hck⟩:=h1
 have hlo:=Nat.eq_of_beq_eq_true hlo
 obtain ⟨hls,hget⟩:=KZ abO
 have hlc:ch.length=ops.size:=by rw [<-hch];simp
 have hS:Au P keep nt ops (fun p=>sts.getD p dflt) (fun p=>ch.getD p []) (fun p=>ord.getD p 0) (fun p=>anc.getD p []):=by
  refine VF (fun p hp o ho=> ?_) hck
  have hpo:p < ord.length:=by omega
  obtain ⟨s,o',g1,g2,g3⟩:=hget p _ (List.getElem?_eq_getElem hpo)
  simp only [List.getD_eq_getElem?_getD,List.getElem?_eq_getElem hpo,Option.getD_some] at ho
  rw [g2] at ho
  cases ho
  simp only [List.getD_eq_getElem?_getD,g1,Option.getD_some]
  exact g3
 generalize (fun p=>ord.getD p 0)=I at hS
 generalize (fun p=>anc.getD p [])=A at hS
 have Qd:∀i,i < (sts.zip ch).length->(sts.zip ch)[i]?=some (sts.getD i dflt,ch.getD i []):=fun i hi=>by
  have hi2:=hi
  rw [List.length_zip] at hi2
  rw [List.getElem?_eq_getElem hi,List.getElem_zip]
  simp only [List.getD_eq_getElem?_getD,List.getElem?_eq_getElem (show i < sts.length by omega),List.getElem?_eq_getElem (show i < ch.length by omega),Option.getD_some]
 have hzl:(sts.zip ch).length=ops.size:=by rw [List.length_zip];omega
 generalize hSS:(fun p=>sts.getD p dflt)=S at hS
 generalize hCC:(fun p=>ch.getD p [])=C at hS
 have Qd:∀i,i < (sts.zip ch).length->(sts.zip ch)[i]?=some (S i,C i):=fun i hi=>by rw [<-hSS,<-hCC];exact Qd i hi
 generalize sts.zip ch=r at Qd hzl
 intro O D hD w0 ds m0 n0 t h hb a w hst
 obtain ⟨m,φ,b1,b2,b3,b4,b5⟩:=hst
 have hlen:t.length=keep.length:=b4.len
 have hE:=good_step (D:=D) (S:=S) (C:=C) (t0:=t) (h0:=h) r 0 [] (fun i hi=>by rw [Nat.zero_add];exact Qd i hi) rfl (fun q pa hq=>by simp at hq) ⟨fun p hp=>absurd hp (Nat.not_lt_zero _),fun p hp=>absurd hp (Nat.not_lt_zero _),fun p hp=>absurd hp (Nat.not_lt_zero _)⟩ (fun e=>hb (by show panR (mQ r t) (drGo D r [] [] t h)=_;rw [show drGo D r [] [] t h= .bad from e];rfl))
 rw [Nat.zero_add,hzl] at hE
 show Code.wp P _ (QP O w0 keep nt ds m0 n0 (drR D r t h)) a w
 obtain ⟨M,hM,hG,hZ⟩:∃M,M<=ops.size/\Good D S C M t h/\((M=ops.size/\drR D r t h= .norm (cst D S t h ops.size).2.1 (cst D S t h ops.size).2.2)\/(M < ops.size/\∃v h',gdv (S M).g (cst D S t h M).1 (cst D S t h M).2.1=some true/\(S M).o.run D (cst D S t h M).1 (cst D S t h M).2.1 (cst D S t h M).2.2= .panic v h'/\∃tz:List AV,tz.length=keep.length/\(∀i,((∀q,q < ops.size->hits (S q).d (.slot i)=false)/\getS tz i=getS t i)\/getS tz i= .bot)/\drR D r t h= .panic v tz h')):=by
  rcases hE with ⟨h1,h2⟩|⟨q,v,h',h1,h2,h3,h4,h5⟩
  ·refine ⟨_,Nat.le_refl _,h1, .inl ⟨rfl, ?_⟩⟩
   show panR (mQ r t) (drGo D r [] [] t h)=_
   rw [show drGo D r [] [] t h=_ from h2]
   rfl
  ·refine ⟨q,by omega,h2, .inr ⟨h1,v,h',h3,h4,mQ r t,by rw [Bg];exact hlen,fun i=> ?_, ?_⟩⟩
   ·rcases Bf i r t with ⟨k1,k2⟩|k
    ·exact .inl ⟨fun q hq=>k1 _ (List.mem_of_getElem? (Qd q (by omega))),k2⟩
    ·exact .inr k
   ·show panR (mQ r t) (drGo D r [] [] t h)=_
    rw [show drGo D r [] [] t h=_ from h5]
    rfl
 generalize drR D r t h=Z at hZ
 have hMd:M < ops.size->(S M).o.df=false:=fun hlt=>by
  rcases hZ with ⟨h,_⟩|⟨_,v,h',_,h2,_⟩
  ·omega
  ·cases ho:(S M).o<;>rw [ho] at h2<;>first|rfl|(simp only [Op1.run] at h2;split at h2<;>cases h2)
 refine wp_region_any hS.mixed ?_
 obtain ⟨k,_,k2',k3,k4⟩:=yV S ops.size ops.size 0 (Nat.zero_add _)
 have k2:k<=M:=by
  by_cases hlt:M < ops.size
  ·by_cases h:k<=M
   ·exact h
   ·have:=k4 M (by omega) (by omega);rw [hMd hlt] at this;cases this
  ·omega
 refine YW hD hS hM hZ hG hlen ops.size (fun _=>false) k [] t _ a w.drew k2 ⟨?_,fun p hp=> ?_,k2',k3,fun p hp hd=> ?_,fun p _ _=>rfl,fun p q _ hL=> ?_,hlen,fun x=> .inl ⟨fun q _ hL=> ?_,rfl⟩,fun p hp _=> ?_,fun p hp=> ?_, ?_⟩ ?_
 ·simp
 ·have:=hS.lt p hp
  simp [Array.getD_eq_getD_getElem?,this]
 ·rw [k4 p (Nat.zero_le _) hp] at hd;cases hd
 ·cases hL
 ·cases hL
 ·exact Eb hS hM hG (Nat.lt_succ_self p) (k4 p (Nat.zero_le _) hp) (hG.self p (by omega)) (by omega) k2 (fun b hb hbd=>by rw [k4 b (Nat.zero_le _) hb] at hbd;cases hbd)
 ·exact qQ hG (j:=p) (k:=p+1) (by omega) (by omega) (fun r h5 h6=>k4 r (Nat.zero_le _) (by omega))
 ·have hn:=qQ hG (j:=0) (k:=k) (Nat.zero_le _) k2 (fun r h5 h6=>k4 r (Nat.zero_le _) h6)
  have e0:(cst D S t h 0).2.2=h:=rfl
  rw [e0] at hn
  have hA:=advance hG (w:=w.drew) (m:=m) (φ:=φ) (j:=0) (SR.drew b3) (Nat.zero_le _) k2 (fun r h5 h6=>k4 r (Nat.zero_le _) h6)
  refine ⟨m,φ,b1,by omega,hA,b4,b5,fun q h1 h2 h3 h4=> ?_⟩
  have hge:=qQ hG (j:=0) (k:=q) (by omega) (by omega) (fun r h5 h6=>k4 r (Nat.zero_le _) (by omega))
  rw [e0] at hge
  have hlt:(cst D S t h q).2.2.n < (cst D S t h (q+1)).2.2.n:=by
   rcases sK hG (p:=q) (by omega) (k4 q (Nat.zero_le _) h1) with ⟨_,h'⟩|⟨_,c,h'⟩
   ·rw [h' h3] at h4;cases h4
   ·rw [h'];exact Nat.lt_succ_self _
  have abN:=qQ hG (j:=q+1) (k:=k) (by omega) k2 (fun r h5 h6=>k4 r (Nat.zero_le _) h6)
  refine ⟨?_,by omega,by omega⟩
  cases hm:m (cst D S t h q).2.2.n with
  |none=>rfl
  |some pl=>have:=b3.dom _ _ hm;omega
 ·refine Nat.le_trans List.countP_le_length ?_
  simp
theorem YZ {O:dH} {f:Nat} {keep:List Nat} {b:BF} (h:bfOf P (drOf P) f keep=some b) (N:Nat):jD P O f (fun D args h=>b.run (fun D=>drR D) N D args h):=
 aal (fun _ _ _ _ _ _ hr=>La hr) h N
end Am
end Go.Proofs.YtbnkdnlfdofepaaGreat
