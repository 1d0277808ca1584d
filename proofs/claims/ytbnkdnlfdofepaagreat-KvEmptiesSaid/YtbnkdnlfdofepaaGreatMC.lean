/- The plain machine: the same, in a form that the kernel runs fast: every way of a case is a closed term, every number is brought to a literal as it is made. The plain machine: its fast form is what it stands for: numbers, places, operations. The plain machine: its fast form is what it stands for: places, rows, operations that write nothing. The plain machine: its fast form is what it stands for: the heap, operations that write, regions, code, functions. The plain machine: a run in pieces: what a piece of code makes of a state, told by rules; behind each piece what is not wanted of the heap may  -/
import Derived.Test.YtbnkdnlfdofepaaGreatMB
import Derived.Recover
set_option linter.unusedVariables false
set_option linter.unusedSimpArgs false
namespace Go.Proofs.YtbnkdnlfdofepaaGreat
namespace Am
open Go.RowKit
set_option maxRecDepth 10000
noncomputable def QB {β:Type} (n:Nat) (f:Nat->β):β:=Nat.rec (motive:=fun _=>(Nat->β)->β) (fun f=>f 0) (fun m _ f=>f (Nat.succ m)) n f
noncomputable def Jm {β:Type} (n:Int) (f:Int->β):β:=Int.rec (motive:=fun _=>(Int->β)->β) (fun m f=>QB m fun m=>f (.ofNat m)) (fun m f=>QB m fun m=>f (.negSucc m)) n f
noncomputable def Eh (a b:Int):Bool:=Int.rec (motive:=fun _=>Int->Bool)
 (fun m b=>Int.rec (motive:=fun _=>Nat->Bool) (fun n m=>Nat.blt m n) (fun _ _=>false) b m)
 (fun m b=>Int.rec (motive:=fun _=>Nat->Bool) (fun _ _=>true) (fun n m=>Nat.blt n m) b m) a b
noncomputable def Gy (a b:Int):Bool:=Int.rec (motive:=fun _=>Int->Bool)
 (fun m b=>Int.rec (motive:=fun _=>Nat->Bool) (fun n m=>Nat.beq m n) (fun _ _=>false) b m)
 (fun m b=>Int.rec (motive:=fun _=>Nat->Bool) (fun _ _=>false) (fun n m=>Nat.beq n m) b m) a b
noncomputable def Gz (w:Nat) (s:Int->Int) (n:Int):Int:=Int.rec (motive:=fun _=>Nat->(Int->Int)->Int) (fun m w _=> .ofNat (Nat.mod m w)) (fun m _ s=>s (.negSucc m)) n w s
noncomputable def GG (w:Nat) (s:Int->Int) (n:Int):Int:=Int.rec (motive:=fun _=>Nat->(Int->Int)->Int)
 (fun m w s=>Bool.rec (motive:=fun _=>Int) (s (.ofNat m)) (.ofNat m) (Nat.blt m w)) (fun m w s=>Bool.rec (motive:=fun _=>Int) (s (.negSucc m)) (.negSucc m) (Nat.blt m w)) n w s
noncomputable def Y8 (k:IntKind) (n:Int):Int:=IntKind.rec (motive:=fun _=>Int->Int)
 (fun n=>GG 128 (wr .i8) n) (fun n=>GG 32768 (wr .i16) n) (fun n=>GG 2147483648 (wr .i32) n) (fun n=>GG 9223372036854775808 (wr .i64) n)
 (fun n=>Gz 256 (wr .u8) n) (fun n=>Gz 65536 (wr .u16) n) (fun n=>Gz 4294967296 (wr .u32) n) (fun n=>Gz 18446744073709551616 (wr .u64) n) k n
noncomputable def Lh (b:Bool):Bool:=Bool.rec (motive:=fun _=>Bool) true false b
theorem GH {β:Type} (n:Nat) (f:Nat->β):QB n f=f n:=by cases n<;>rfl
theorem NM {β:Type} (n:Int) (f:Int->β):Jm n f=f n:=by
 cases n with
 |ofNat m=>exact GH m _
 |negSucc m=>exact GH m _
theorem jP (a b:Int):Eh a b=decide (a < b):=by
 rw [Bool.eq_iff_iff,decide_eq_true_iff]
 cases a with
 |ofNat m=>cases b with
  |ofNat n=>show Nat.blt m n=true↔_;rw [Nat.blt_eq];simp only [Int.ofNat_eq_natCast];omega
  |negSucc n=>show false=true↔_;simp only [Int.ofNat_eq_natCast];constructor;(intro h;cases h);omega
 |negSucc m=>cases b with
  |ofNat n=>show true=true↔_;simp only [Int.ofNat_eq_natCast,true_iff];omega
  |negSucc n=>show Nat.blt n m=true↔_;rw [Nat.blt_eq];omega
theorem GI (a b:Int):Gy a b=(a==b):=by
 rw [Bool.eq_iff_iff,beq_iff_eq]
 cases a with
 |ofNat m=>cases b with
  |ofNat n=>show Nat.beq m n=true↔_;rw [Nat.beq_eq];simp only [Int.ofNat_eq_natCast];omega
  |negSucc n=>show false=true↔_;constructor<;>intro h<;>cases h
 |negSucc m=>cases b with
  |ofNat n=>show false=true↔_;constructor<;>intro h<;>cases h
  |negSucc n=>show Nat.beq n m=true↔_;rw [Nat.beq_eq];constructor;(intro h;rw [h]);(intro h;cases h;rfl)
theorem vI {w:Nat} {s:Int->Int} (n:Int) (h:∀m:Nat,s (.ofNat m)= .ofNat (m % w)):Gz w s n=s n:=by
 cases n with
 |ofNat m=>exact (h m).symm
 |negSucc m=>rfl
theorem vJ {w:Nat} {s:Int->Int} (n:Int) (h:∀m:Int, -(w:Int)<=m->m < w->s m=m):GG w s n=s n:=by
 cases n with
 |ofNat m=>
  show (Bool.rec (s (.ofNat m)) (.ofNat m) (Nat.blt m w):Int)=_
  cases hb:Nat.blt m w with
  |false=>rfl
  |true=>
   have:=(Nat.blt_eq▸hb:m < w)
   refine (h _ ?_ ?_).symm<;>simp only [Int.ofNat_eq_natCast]<;>omega
 |negSucc m=>
  show (Bool.rec (s (.negSucc m)) (.negSucc m) (Nat.blt m w):Int)=_
  cases hb:Nat.blt m w with
  |false=>rfl
  |true=>
   have:=(Nat.blt_eq▸hb:m < w)
   show Int.negSucc m=_
   refine (h _ ?_ ?_).symm<;>omega
theorem VW (k:IntKind) (n:Int):Y8 k n=wr k n:=by
 cases k
 case i8=>exact vJ n (fun m h1 h2=>by simp only [wr,IntKind.wrap,IntKind.bits,IntKind.signed];simp;omega)
 case i16=>exact vJ n (fun m h1 h2=>by simp only [wr,IntKind.wrap,IntKind.bits,IntKind.signed];simp;omega)
 case i32=>exact vJ n (fun m h1 h2=>by simp only [wr,IntKind.wrap,IntKind.bits,IntKind.signed];simp;omega)
 case i64=>exact vJ n (fun m h1 h2=>by simp only [wr,IntKind.wrap,IntKind.bits,IntKind.signed];simp;omega)
 case u8=>exact vI n (fun m=>by simp only [wr,IntKind.wrap,IntKind.bits,IntKind.signed];simp)
 case u16=>exact vI n (fun m=>by simp only [wr,IntKind.wrap,IntKind.bits,IntKind.signed];simp)
 case u32=>exact vI n (fun m=>by simp only [wr,IntKind.wrap,IntKind.bits,IntKind.signed];simp)
 case u64=>exact vI n (fun m=>by simp only [wr,IntKind.wrap,IntKind.bits,IntKind.signed];simp)
theorem nX (b:Bool):Lh b= !b:=by cases b<;>rfl
variable {P:Program}
structure Stt (X:Type) where
 t:List AV
 n:Nat
 l:List (Nat×AB X)
noncomputable def Stt.tr {X:Type} (l:List (Nat×AB X)):T (AB X):=List.rec (motive:=fun _=>T (AB X)) .nil (fun p _ ih=>T.set (Nat.succ p.1) ih p.1 (some p.2)) l
noncomputable def Stt.h {X:Type} (s:Stt X):Hp X:=⟨Stt.tr s.l,s.n⟩
inductive Kd where
 |norm
 |brk (k:Nat)
 |ret
def Kd.r {X:Type} (k:Kd) (t:List AV) (h:Hp X):R X:=match k with| .norm=> .norm t h| .brk n=> .brk n t h| .ret=> .ret t h
variable {P:Program}
noncomputable def h0 {X:Type}:Hp X:=⟨.nil,0⟩
theorem aaB (O:dH) (W:World):SR O W W (fun _=>none) (fun _ _=>False) h0:=
 ⟨Below.refl _ _,(fun g c hg p hp=>by cases hp),(fun g g' c c' _ _ _ _ _ hi=>by cases hi),(fun g c _ _ hi=>by cases hi),(fun g p hp=>by cases hp)⟩
variable {P:Program}
structure DG where
 g:Nat
 nt:Nat
 keep:List Nat
 d0:Ds
 d1:Ds
 body:BC
noncomputable def DG.run {X:Type} (rn:BC->List AV->Hp X->R X) (G:DG) (pan:Bool) (cs:List AV) (h:Hp X):Option (Hp X):=
 bif Nat.ble cs.length G.nt then (match rn G.body (putT G.d1 (.bool pan) (putT G.d0 .bot (G.keep.map fun d=>getS cs d))) h with
  | .norm _ h'=>some h'
  | .ret _ h'=>some h'
  |_=>none) else none
inductive BD where
 |here (m:Mv) (d:Ds) (x:Od)
 |left (a:BD) (b:BC)
 |right (a:BC) (b:BD)
noncomputable def BD.run {X:Type} (rn:BC->List AV->Hp X->R X):BD->List AV->Hp X->Option (AV×R X)
 | .here m d x,t,h=>(match m.ev [] t h with|some v=>some (x.ev (putE d v []) (putT d v t), .norm (putT d v t) h)|none=>none)
 | .left a b,t,h=>(match BD.run rn a t h with|some (f,r)=>some (f,seqR r (rn b))|none=>none)
 | .right a b,t,h=>(match rn a t h with| .norm t' h'=>BD.run rn b t' h'|_=>none)
structure DF where
 nt:Nat
 keep:List Nat
 body:BD
 res:List Rs
 G:DG
def howR {X:Type} (r:R X):Option (Bool×List AV×Hp X):=match r with| .norm t h=>some (false,t,h)| .ret t h=>some (false,t,h)| .panic v t h=>(match v with| .iface _ _=>some (true,t,h)|_=>none)|_=>none
noncomputable def endD {X:Type} (rn:BC->List AV->Hp X->R X) (f:DF) (x:Option (AV×R X)):gp X:=
 match x with
 |some (.func g cs,r)=>bif Nat.beq g f.G.g then (match howR r with
  |some (pan,t,h)=>(match f.G.run rn pan cs h with
   |some h'=>(match resV t h' f.res with|some l=> .ret (packA l) h'|none=> .bad)
   |none=> .bad)
  |none=> .bad) else .bad
 |_=> .bad
noncomputable def DF.abS {X:Type} (rn:BC->List AV->Hp X->R X) (f:DF) (args:List AV) (h:Hp X):gp X:=
 bif Nat.ble args.length f.nt then endD rn f (f.body.run rn (f.keep.map fun d=>getS args d) h) else .bad
noncomputable def DF.run {X:Type} (N:Nat) (f:DF) (D:Dp X) (args:List AV) (h:Hp X):gp X:=f.abS (fun b t h=>b.run D (drR D) N t h) args h
inductive GK (P:Program) (keep:List Nat) (nt:Nat):Code->BD->Prop where
 |here {id:Nat} {o1 o2:Oper} {m:Mv} {y:Operand} {x:Od} {tys:Array TypeId}:o1.guard=none->opOf P keep o1=some (.mov m)->(∀n,o1.dst=some n->n < nt)->o2.guard=none->o2.dst=none->o2.op= .defer {callee:= .value y,args:= #[],argTypes:=tys}->odOf keep y=some x->
   GK P keep nt (.region id #[o1,o2] false) (.here m (dsOf keep o1.dst) x)
 |left {c1 c2:Code} {a:BD} {b:BC}:GK P keep nt c1 a->bcOf P keep nt (drOf P keep nt) c2=some b->GK P keep nt (.seq c1 c2) (.left a b)
 |right {c1 c2:Code} {a:BC} {b:BD}:bcOf P keep nt (drOf P keep nt) c1=some a->GK P keep nt c2 b->GK P keep nt (.seq c1 c2) (.right a b)
section
variable {O:dH} {D:Dp O.X} {w0:World} {keep:List Nat} {nt:Nat} {m0:Mu} {n0:Nat}
def QD (O:dH) (w0:World) (keep:List Nat) (nt:Nat) (m0:Mu) (n0:Nat) (r:Option (AV×R O.X)) (ex:Exit) (a:Act) (w:World):Prop:=
 match r with
 |some (.func g cs,x)=>∃(m1:Mu) (n1:Nat) (cs':List Value),n0<=n1/\(∀k,k < n0->m1 k=m0 k)/\(∀k p,m1 k=some p->k < n1)/\VRs m1 cs cs'/\QP O w0 keep nt [{target:= .fn (.func g) cs'.toArray,args:= #[]}] m1 n1 x ex a w
 |_=>True
theorem aaC (hD:DS P O D) (N:Nat) {c:Code} {b:BD} (hb:GK P keep nt c b):∀(t:List AV) (h:Hp O.X),(∃g cs x,BD.run (fun b t h=>b.run D (drR D) N t h) b t h=some (.func g cs,x)/\x≠ .bad)->∀(a:Act) (w:World),ST O w0 keep nt [] m0 n0 [] t h a w->c.wp P (QD O w0 keep nt m0 n0 (BD.run (fun b t h=>b.run D (drR D) N t h) b t h)) a w:=by
 induction hb with
 | @here id o1 o2 m y x tys g1 h1 hd g2 hd2 h2 hx=>
  rintro t h ⟨g,cs,r,hr,_⟩ a w ⟨mu,φ,k1,k2,k3,k4,k5⟩
  simp only [BD.run] at hr ⊢
  cases hv:m.ev [] t h with
  |none=>rw [hv] at hr;cases hr
  |some v=>
   rw [hv] at hr
   simp only at hr ⊢
   simp only [Option.some.injEq,Prod.mk.injEq] at hr
   obtain ⟨hf,rfl⟩:=hr
   have hmv:fV P keep o1 m:=P7 h1
   obtain ⟨v',e1,e2⟩:=hmv k3 k4 hv
   refine wp_region_list (wpList_step fun K hK=> ?_)
   rw [if_pos (by simp [Region.wanted,g1])]
   unfold Oper.wp
   rw [e2,Oper.upon_value]
   have k4':=k4.put (d:=o1.dst) hd e1
   refine hK _ _ (wpList_step fun K hK=> ?_)
   rw [if_pos (by simp [Region.wanted,g2])]
   have hy:=k4'.od hx
   rw [hf] at hy
   simp only [VR] at hy
   obtain ⟨cs',hy1,hy2⟩:=hy
   unfold Oper.wp
   have hrun:(execOp (a.put o1.dst v').eval o2).run P w= .ok (.defer {target:= .fn (.func g) cs'.toArray,args:= #[]}) w:=by
    simp [execOp,h2,resolve,hy1,Deferred.ofValue]
   rw [hrun,Oper.upon_defer]
   refine hK _ _ (wpList_nil ?_)
   rw [hf]
   refine ⟨mu,h.n,cs',k2,k1,k3.dom,hy2,rfl,mu,φ,fun _ _=>rfl,Nat.le_refl _,k3, ?_, ?_⟩
   ·rw [hd2]
    have k6:=k4'.void
    exact ⟨k6.size,k6.len,k6.nd,k6.env,k6.slot⟩
   ·rw [hd2]
    show _::(a.put o1.dst v').defers=_
    have:(a.put o1.dst v').defers=a.defers:=by cases o1.dst<;>rfl
    rw [this,k5]
 | @left c1 c2 a b h1 h2 ih=>
  rintro t h ⟨g,cs,r,hr,hbad⟩ ac w hst
  simp only [BD.run] at hr ⊢
  cases hx:BD.run (fun b t h=>b.run D (drR D) N t h) a t h with
  |none=>rw [hx] at hr;cases hr
  |some p=>
   obtain ⟨f,r1⟩:=p
   rw [hx] at hr
   simp only [Option.some.injEq,Prod.mk.injEq] at hr
   obtain ⟨rfl,rfl⟩:=hr
   have hb1:r1≠ .bad:=fun e=>by rw [e] at hbad;exact hbad rfl
   refine wp_seq (wp_mono (ih t h ⟨g,cs,r1,hx,hb1⟩ ac w hst) fun ex a' w' hq=> ?_)
   rw [hx] at hq
   obtain ⟨m1,n1,cs',q1,q2,q3,q4,q5⟩:=hq
   have hcs:CS P keep nt (fun D=>drR D) c2 b:=uh (fun _ _ _ hr=>La hr) h2
   cases r1 with
   |norm t' h'=>
    obtain ⟨rfl,hst'⟩:=q5
    exact wp_mono (hcs hD N t' h' hbad a' w' hst') fun ex2 a2 w2 hq2=>⟨m1,n1,cs',q1,q2,q3,q4,hq2⟩
   |brk k t' h'=>obtain ⟨rfl,hst'⟩:=q5;exact ⟨m1,n1,cs',q1,q2,q3,q4,rfl,hst'⟩
   |ret t' h'=>obtain ⟨rfl,hst'⟩:=q5;exact ⟨m1,n1,cs',q1,q2,q3,q4,rfl,hst'⟩
   |panic v t' h'=>obtain ⟨v',m,φ,rfl,rr⟩:=q5;exact ⟨m1,n1,cs',q1,q2,q3,q4,v',m,φ,rfl,rr⟩
   |bad=>exact absurd rfl hb1
 | @right c1 c2 a b h1 h2 ih=>
  rintro t h ⟨g,cs,r,hr,hbad⟩ ac w hst
  simp only [BD.run] at hr ⊢
  have hcs:CS P keep nt (fun D=>drR D) c1 a:=uh (fun _ _ _ hr=>La hr) h1
  cases hx:a.run D (drR D) N t h with
  |norm t' h'=>
   rw [hx] at hr
   simp only at hr ⊢
   have hq:=hcs hD N t h (fun e=>by rw [show a.run D (drR D) N t h=R.bad from e] at hx;cases hx) ac w hst
   refine wp_seq (wp_mono hq fun ex a' w' hq=> ?_)
   rw [show a.run D (drR D) N t h=R.norm t' h' from hx] at hq
   obtain ⟨rfl,hst'⟩:=hq
   exact ih t' h' ⟨g,cs,r,hr,hbad⟩ a' w' hst'
  |_=>rw [hx] at hr;cases hr
structure Y9 (P:Program) (G:DG):Prop where
 call:callable P G.g=true
 nd:G.keep.Nodup
 lt:∀d∈G.keep,d < G.nt
 ok:∃(fn:Func) (c2:Code) (id:Nat) (o0 o1:Oper) (tys:Array TypeId) (ty oty:TypeId) (ms:Array (String×TypeId)) (t0 t1:Nat),P.funcs[G.g]?=some fn/\fn.body=some (.seq (.region id #[o0,o1] false) c2)/\fn.ntmps=G.nt/\fn.results.toList=[]/\
  o0.guard=none/\o0.op= .call {callee:= .builtin .recover,args:= #[],argTypes:=tys}/\o0.dst=some t0/\dsOf G.keep (some t0)=G.d0/\t0 < G.nt/\
  o1.guard=none/\o1.op= .binOp .neq ty (.tmp t0) (.const .nilIface) oty/\P.underlying ty=some (.interface ms)/\o1.dst=some t1/\dsOf G.keep (some t1)=G.d1/\t1 < G.nt/\
  bcOf P G.keep G.nt (drOf P G.keep G.nt) c2=some G.body
theorem VX {w:World} {ty:TypeId} {ms:Array (String×TypeId)} (h:P.underlying ty=some (.interface ms)) {n:Nat} {rv:Value} {pan:Bool} (hv:(rv= .nilIface/\pan=false)\/∃t v,rv= .iface t v/\pan=true):
  (do eqGuard .neq ty (.tmp n) (.const .nilIface) rv .nilIface;binOp .neq ty rv .nilIface:Sem Value).run P w= .ok (.bool pan) w:=by
 rcases hv with ⟨rfl,rfl⟩|⟨t,v,rfl,rfl⟩
 ·have h1:eqGuard .neq ty (.tmp n) (.const .nilIface) .nilIface .nilIface=pure ():=rfl
  have h2:(Op.equal ty .nilIface .nilIface).run P w= .ok true w:=by
   show (Op.equalIn (9999+1) _ _ _).run P w=_
   generalize 9999=dep
   simp [Op.equalIn,run_underlying h]
  rw [h1]
  simp only [Sem.run_bind,Sem.run_pure,Result.andThen_ok,binOp,h2,Bool.not_true]
 ·have h1:eqGuard .neq ty (.tmp n) (.const .nilIface) (.iface t v) .nilIface=pure ():=rfl
  have h2:(Op.equal ty (.iface t v) .nilIface).run P w= .ok false w:=by
   show (Op.equalIn (9999+1) _ _ _).run P w=_
   generalize 9999=dep
   simp [Op.equalIn,run_underlying h]
  rw [h1]
  simp only [Sem.run_bind,Sem.run_pure,Result.andThen_ok,binOp,h2,Bool.not_false]
theorem GL {m:Mu} {nt':Nat} {keep':List Nat} {args:List AV} {args':List Value} (hv:VRs m args args') (hnd:keep'.Nodup) (hlt:∀d∈keep',d < nt') (hle:args.length<=nt'):
  FR m keep' nt' [] (keep'.map fun d=>getS args d) {tmps:=args'.toArray++Array.replicate (nt' - args'.toArray.size) undef,defers:=[]}:=by
 have hlen:=hv.len
 refine ⟨by simp;omega,by simp,hnd,fun d _=>by simp [lookE,VR],fun i d hi=> ?_⟩
 have hg:getS (keep'.map fun d=>getS args d) i=getS args d:=by
  have:∀(l:List Nat) (i:Nat),l[i]?=some d->getS (l.map fun d=>getS args d) i=getS args d:=by
   intro l
   induction l with
   |nil=>intro i h;simp at h
   |cons x l ih=>
    intro i h
    cases i with
    |zero=>simp at h;subst h;rfl
    |succ i=>simp at h;exact ih i h
  exact this _ _ hi
 rw [hg]
 have hgs:∀(l:List AV) (d:Nat),getS l d=(l[d]?).getD .bot:=by
  intro l
  induction l with
  |nil=>intro d;cases d<;>rfl
  |cons x l ih=>intro d;cases d with|zero=>rfl|succ d=>simpa [getS] using ih d
 rw [hgs]
 cases hd:args[d]? with
 |none=>simp [VR]
 |some v=>
  obtain ⟨v',k1,k2⟩:=hv.get hd
  have hdl:d < args'.length:=(List.getElem?_eq_some_iff.1 k1).1
  rw [Array.getD_eq_getD_getElem?,Array.getElem?_append_left (by simpa using hdl)]
  simpa [k1] using k2
theorem aaD (hD:DS P O D) {G:DG} (hG:Y9 P G) (N:Nat) {pan:Bool} {cs:List AV} {cs':List Value} {h h':Hp O.X} (hr:G.run (fun b t h=>b.run D (drR D) N t h) pan cs h=some h') {w:World} {m:Mu} {φ:Ph} (hs:SR O w0 w m φ h) (hv:VRs m cs cs') {u:FrameMode}
  (hu:(pan=false/\u= .returning)\/∃t v,pan=true/\u= .panicking [{v:= .iface t v,recovered:=false}]):
  CallsD P G.g cs'.toArray u w fun e u' w'=>∃v,e= .returned v/\settle u'= .returning/\∃m' φ',(∀g,g < h.n->m' g=m g)/\h.n<=h'.n/\SR O w0 w' m' φ' h':=by
 obtain ⟨fn,c2,id,o0,o1,tys,ty,oty,ms,t0,t1,hf,hb,hnt,hres,g0,p0,d0,e0,l0,g1,p1,hty,d1,e1,l1,hbc⟩:=hG.ok
 unfold DG.run at hr
 cases hle:Nat.ble cs.length G.nt with
 |false=>rw [hle] at hr;cases hr
 |true=>
  rw [hle] at hr
  simp only [cond_true] at hr
  have hfr:=GL hv hG.nd hG.lt (Nat.le_of_ble_eq_true hle)
  refine callsD_of_wpS hf hb fun c₀ cl hmode=>wpS_seq (wpS_region ?_)
  rw [<-hnt] at hfr
  obtain ⟨a,ha⟩:∃a,a=({tmps:=cs'.toArray++Array.replicate (fn.ntmps - cs'.toArray.size) undef,defers:=[]}:Act):=⟨_,rfl⟩
  rw [<-ha] at hfr ⊢
  have hdef:a.defers=[]:=by rw [ha]
  have hrun0:(execOp a.eval o0).run P w= .ok .recover w:=by simp [execOp,p0,resolve,invoke,builtin]
  have step2:∀rv cl1,((rv= .nilIface/\pan=false)\/∃t v,rv= .iface t v/\pan=true)->(∃u',cl1={c₀ with mode:=u'}::cl/\settle u'= .returning)->
    wpOpsS P #[o0,o1] (Exit.thenS (c2.wpS P (bodyPostS P fn c₀ cl fun e u' w'=>∃v,e= .returned v/\settle u'= .returning/\∃m' φ',(∀g,g < h.n->m' g=m g)/\h.n<=h'.n/\SR O w0 w' m' φ' h')) (bodyPostS P fn c₀ cl fun e u' w'=>∃v,e= .returned v/\settle u'= .returning/\∃m' φ',(∀g,g < h.n->m' g=m g)/\h.n<=h'.n/\SR O w0 w' m' φ' h')) [1] (a.put o0.dst rv) cl1 w:=by
   rintro rv cl1 hrv ⟨u',rfl,hset⟩
   have hev:(a.put o0.dst rv).eval (.tmp t0)=rv:=by
    rw [d0]
    have:t0 < a.tmps.size:=by rw [hfr.size,hnt];exact l0
    simp [Act.put,Act.eval,Array.getD_eq_getD_getElem?,this]
   have hrun1:(execOp (a.put o0.dst rv).eval o1).run P w= .ok (.value (.bool pan)) w:=by
    have hq:=VX (P:=P) (w:=w) hty (n:=t0) hrv
    have:execOp (a.put o0.dst rv).eval o1=(do pure (.value (<-(do eqGuard .neq ty (.tmp t0) (.const .nilIface) ((a.put o0.dst rv).eval (.tmp t0)) ((a.put o0.dst rv).eval (.const .nilIface));binOp .neq ty ((a.put o0.dst rv).eval (.tmp t0)) ((a.put o0.dst rv).eval (.const .nilIface)):Sem Value)))):=by simp only [execOp,p1]
    rw [this,hev,show (a.put o0.dst rv).eval (.const .nilIface)= .nilIface from rfl]
    simp only [Sem.run_bind] at hq ⊢
    rw [hq]
    rfl
   have h1:=(hfr.put (d:=o0.dst) (v:= .bot) (v':=rv) (fun n hn=>by rw [d0] at hn;cases hn;rw [hnt];exact l0) (by simp [VR]))
   have h2:=(h1.put (d:=o1.dst) (v:= .bool pan) (v':= .bool pan) (fun n hn=>by rw [d1] at hn;cases hn;rw [hnt];exact l1) (by simp [VR])).void
   rw [d0,d1,e0,e1] at h2
   have hst:ST O w0 G.keep fn.ntmps [] m h.n [] (putT G.d1 (.bool pan) (putT G.d0 .bot (G.keep.map fun d=>getS cs d))) h ((a.put o0.dst rv).put o1.dst (.bool pan)) w:=by
    refine ⟨m,φ,fun _ _=>rfl,Nat.le_refl _,hs,by rw [d0,d1];exact h2, ?_⟩
    rw [d0,d1]
    exact hdef
   have hcs:CS P G.keep fn.ntmps (fun D=>drR D) c2 G.body:=uh (fun _ _ _ hr=>La hr) (by rw [hnt];exact hbc)
   have hbad:G.body.run D (drR D) N (putT G.d1 (.bool pan) (putT G.d0 .bot (G.keep.map fun d=>getS cs d))) h≠ .bad:=fun e=>by rw [e] at hr;cases hr
   have hwp:=hcs hD N _ h hbad _ w hst
   simp only [wpOpsS]
   rw [show (#[o0,o1]:Array Oper)[1]?=some o1 from rfl]
   simp only []
   rw [if_pos (by simp [Region.wanted,g1]),hrun1]
   refine (show c2.wpS P (bodyPostS P fn c₀ cl fun e u' w'=>∃v,e= .returned v/\settle u'= .returning/\∃m' φ',(∀g,g < h.n->m' g=m g)/\h.n<=h'.n/\SR O w0 w' m' φ' h') ((a.put o0.dst rv).put o1.dst (.bool pan)) ({c₀ with mode:=u'}::cl) w from ?_)
   refine wpS_of_wp (wp_mono hwp fun ex a' w' hq=> ?_)
   have fin:∀t2 h2,h2=h'->ST O w0 G.keep fn.ntmps [] m h.n [] t2 h2 a' w'->a'.defers=[]/\∃aaE,({c₀ with mode:=u'}::cl:List Frame)={c₀ with mode:=aaE}::cl/\∃v,(results fn a'.tmps).run P w'= .ok v w'/\∃v_1,Ending.returned v= .returned v_1/\settle aaE= .returning/\∃m' φ',(∀g,g < h.n->m' g=m g)/\h.n<=h'.n/\SR O w0 w' m' φ' h':=by
    rintro t2 h2 rfl ⟨m',φ',q1,q2,q3,q4,q5⟩
    obtain ⟨v,_,hv2⟩:=uy (P:=P) (fn:=fn) (s:=[]) q3 q4 (by rw [hres];exact vg.nil (P:=P)) (vs:=[]) rfl
    exact ⟨q5,u',rfl,v,hv2,v,rfl,hset,m',φ',q1,q2,q3⟩
   have hq2:QP O w0 G.keep fn.ntmps [] m h.n (G.body.run D (drR D) N (putT G.d1 (.bool pan) (putT G.d0 .bot (G.keep.map fun d=>getS cs d))) h) ex a' w':=hq
   cases hx:G.body.run D (drR D) N (putT G.d1 (.bool pan) (putT G.d0 .bot (G.keep.map fun d=>getS cs d))) h with
   |norm t2 h2=>
    rw [hx] at hr hq2
    cases hr
    obtain ⟨rfl,hst'⟩:=hq2
    exact fin t2 _ rfl hst'
   |ret t2 h2=>
    rw [hx] at hr hq2
    cases hr
    obtain ⟨rfl,hst'⟩:=hq2
    exact fin t2 _ rfl hst'
   |_=>rw [hx] at hr;cases hr
  rw [show List.range (#[o0,o1]:Array Oper).size=[0,1] from rfl]
  unfold wpOpsS
  rw [show (#[o0,o1]:Array Oper)[0]?=some o0 from rfl]
  simp only []
  rw [if_pos (by simp [Region.wanted,g0]),hrun0]
  simp only []
  rcases hu with ⟨rfl,rfl⟩|⟨t,v,rfl,rfl⟩
  ·have:recoverD (c₀::cl)=none:=by simp [recoverD,hmode]
   rw [this]
   exact step2 _ _ (.inl ⟨rfl,rfl⟩) ⟨.returning,by rw [<-hmode],rfl⟩
  ·have:recoverD (c₀::cl)=some (.iface t v,{c₀ with mode:= .panicking [{v:= .iface t v,recovered:=true}]}::cl):=by simp [recoverD,hmode]
   rw [this]
   exact step2 _ _ (.inr ⟨t,v,rfl,rfl⟩) ⟨.panicking [{v:= .iface t v,recovered:=true}],rfl,rfl⟩
theorem VY {f:Nat} {fn:Func} {c:Code} {b:DF} (N:Nat) (hc:callable P f=true) (hf:P.funcs[f]?=some fn) (hb:fn.body=some c) (hnt:fn.ntmps=b.nt) (hnd:b.keep.Nodup) (hlt:∀d∈b.keep,d < b.nt)
  (hbd:GK P b.keep b.nt c b.body) (hrs:vg P b.keep fn.results.toList b.res) (hG:Y9 P b.G):jD P O f (fun D args h=>b.run N D args h):=by
 refine ⟨hc,fun {D} hD args h hbad {w0 w m φ args'} hs hv=> ?_⟩
 have bD:(bif Nat.ble args.length b.nt then endD (fun b t h=>b.run D (drR D) N t h) b (b.body.run (fun b t h=>b.run D (drR D) N t h) (b.keep.map fun d=>getS args d) h) else .bad)≠ .bad:=hbad
 show Calls P f args'.toArray w (iy O w0 m h (bif Nat.ble args.length b.nt then endD (fun b t h=>b.run D (drR D) N t h) b (b.body.run (fun b t h=>b.run D (drR D) N t h) (b.keep.map fun d=>getS args d) h) else .bad))
 cases hle:Nat.ble args.length b.nt with
 |false=>rw [hle] at bD;exact absurd rfl bD
 |true=>
  rw [hle] at bD
  simp only [cond_true] at bD ⊢
  have hfr:=GL hv hnd hlt (Nat.le_of_ble_eq_true hle)
  rw [<-hnt] at hfr
  refine calls_of_wp_defers hf hb ?_
  cases hx:b.body.run (fun b t h=>b.run D (drR D) N t h) (b.keep.map fun d=>getS args d) h with
  |none=>rw [hx] at bD;exact absurd rfl bD
  |some p=>
   obtain ⟨fv,r⟩:=p
   rw [hx] at bD
   cases fv<;>first|(exact absurd rfl bD)|skip
   rename_i g cs
   simp only [endD] at bD ⊢
   cases hg:Nat.beq g b.G.g with
   |false=>rw [hg] at bD;exact absurd rfl bD
   |true=>
    rw [hg] at bD
    simp only [cond_true] at bD ⊢
    have hg:=Nat.eq_of_beq_eq_true hg
    subst hg
    have hrb:r≠ .bad:=fun e=>by rw [e] at bD;exact bD rfl
    have hst:ST O w0 b.keep b.nt [] m h.n [] (b.keep.map fun d=>getS args d) h {tmps:=args'.toArray++Array.replicate (fn.ntmps - args'.toArray.size) undef,defers:=[]} w:=⟨m,φ,fun _ _=>rfl,Nat.le_refl _,hs,by rw [<-hnt];exact hfr,rfl⟩
    refine wp_mono (aaC hD N hbd _ h ⟨_,cs,r,hx,hrb⟩ _ w hst) fun ex a' w' hq=> ?_
    rw [hx] at hq
    obtain ⟨m1,n1,cs',q1,q2,q3,q4,q5⟩:=hq
    have leave:∀pan t1 h1 m2 φ2 (u:FrameMode),(∀g,g < n1->m2 g=m1 g)->n1<=h1.n->SR O w0 w' m2 φ2 h1->FR m2 b.keep b.nt [] t1 a'->((pan=false/\u= .returning)\/∃t v,pan=true/\u= .panicking [{v:= .iface t v,recovered:=false}])->
      ∀h2,b.G.run (fun b t h=>b.run D (drR D) N t h) pan cs h1=some h2->∀l,resV t1 h2 b.res=some l->
      Leaves P fn a'.tmps (iy O w0 m h (.ret (packA l) h2)) [{target:= .fn (.func b.G.g) cs'.toArray,args:= #[]}] u w':=by
     intro pan t1 h1 m2 φ2 u k1 k2 k3 k4 k5 h2 hr2 l hl
     have FI:Ext m1 m2:=fun g p hp=>by rw [k1 g (q3 g p hp)];exact hp
     refine ⟨?_,_,_,b.G.g,cs'.toArray,rfl, ?_,(aaD hD hG N hr2 k3 (q4.ext FI) k5).mono ?_⟩
     ·rcases k5 with ⟨_,rfl⟩|⟨_,_,_,rfl⟩<;>intro h<;>cases h
     ·simp [invoke,kW hG.call]
     ·rintro e u' w2 ⟨v,rfl,hset,m3,φ3,z1,z2,z3⟩
      show Leaves P fn a'.tmps (iy O w0 m h (.ret (packA l) h2)) [] (settle u') w2
      rw [hset]
      obtain ⟨v',y1,y2⟩:=uy (fn:=fn) z3 (k4.ext (qN k3 z1)) hrs hl
      exact ⟨v',y2,m3,φ3,v',fun g hg=>by rw [z1 g (by omega),k1 g (by omega),q2 g hg],by omega,z3,y1,rfl⟩
    cases r with
    |norm t1 h1=>
     obtain ⟨rfl,m2,φ2,k1,k2,k3,k4,k5⟩:=q5
     simp only [howR] at bD ⊢
     cases hr2:b.G.run (fun b t h=>b.run D (drR D) N t h) false cs h1 with
     |none=>rw [hr2] at bD;exact absurd rfl bD
     |some h2=>
      rw [hr2] at bD
      simp only at bD ⊢
      cases hl:resV t1 h2 b.res with
      |none=>rw [hl] at bD;exact absurd rfl bD
      |some l=>
       show Leaves P fn a'.tmps _ a'.defers .returning w'
       rw [k5]
       exact leave false t1 h1 m2 φ2 .returning k1 k2 k3 k4 (.inl ⟨rfl,rfl⟩) h2 hr2 l hl
    |ret t1 h1=>
     obtain ⟨rfl,m2,φ2,k1,k2,k3,k4,k5⟩:=q5
     simp only [howR] at bD ⊢
     cases hr2:b.G.run (fun b t h=>b.run D (drR D) N t h) false cs h1 with
     |none=>rw [hr2] at bD;exact absurd rfl bD
     |some h2=>
      rw [hr2] at bD
      simp only at bD ⊢
      cases hl:resV t1 h2 b.res with
      |none=>rw [hl] at bD;exact absurd rfl bD
      |some l=>
       show Leaves P fn a'.tmps _ a'.defers .returning w'
       rw [k5]
       exact leave false t1 h1 m2 φ2 .returning k1 k2 k3 k4 (.inl ⟨rfl,rfl⟩) h2 hr2 l hl
    |brk k t1 h1=>exact absurd rfl bD
    |bad=>exact absurd rfl hrb
    |panic v t1 h1=>
     obtain ⟨v',m2,φ2,rfl,k0,k1,k2,k3,k4,k5⟩:=q5
     cases v<;>first|(exact absurd rfl bD)|skip
     rename_i ty x
     simp only [VR] at k0
     obtain ⟨x',rfl,_⟩:=k0
     simp only [howR] at bD ⊢
     cases hr2:b.G.run (fun b t h=>b.run D (drR D) N t h) true cs h1 with
     |none=>rw [hr2] at bD;exact absurd rfl bD
     |some h2=>
      rw [hr2] at bD
      simp only at bD ⊢
      cases hl:resV t1 h2 b.res with
      |none=>rw [hl] at bD;exact absurd rfl bD
      |some l=>
       show Leaves P fn a'.tmps _ a'.defers (.panicking _) w'
       rw [k5]
       exact leave true t1 h1 m2 φ2 _ k1 k2 k3 k4 (.inr ⟨ty,x',rfl,rfl⟩) h2 hr2 l hl
end
def bdOf (P:Program) (keep:List Nat) (nt:Nat):Code->Option BD
 | .region _ ops false=>(match ops.toList with
  |[o1,o2]=>(match o1.guard,opOf P keep o1,o2.guard,o2.dst,o2.op with
   |none,some (.mov m),none,none, .defer c=>(match c.callee,c.args.toList with
    | .value y,[]=>if dstOk nt o1.dst then (match odOf keep y with|some x=>some (.here m (dsOf keep o1.dst) x)|none=>none) else none
    |_,_=>none)
   |_,_,_,_,_=>none)
  |_=>none)
 | .seq a b=>(match bdOf P keep nt a with
  |some x=>(match bcOf P keep nt (drOf P keep nt) b with|some y=>some (.left x y)|none=>none)
  |none=>(match bcOf P keep nt (drOf P keep nt) a,bdOf P keep nt b with|some x,some y=>some (.right x y)|_,_=>none))
 |_=>none
theorem Ei {keep:List Nat} {nt:Nat}:∀{c:Code} {b:BD},bdOf P keep nt c=some b->GK P keep nt c b
 | .region id ops false,b,h=>by
  simp only [bdOf] at h
  split at h
  ·rename_i o1 o2 hops
   have hops:=toList2 hops
   subst hops
   split at h
   ·rename_i m c g1 h1 g2 d2 h2
    obtain ⟨cal,args,tys⟩:=c
    split at h
    ·rename_i y hy hargs
     have ha2:args= #[]:=Array.toList_eq_nil_iff.1 hargs
     subst ha2
     have hy2:cal= .value y:=hy
     subst hy2
     split at h
     ·rename_i hd
      split at h
      ·rename_i x hx
       cases h
       refine .here g1 h1 (fun n hn=> ?_) g2 d2 h2 hx
       rw [hn] at hd
       simpa [dstOk,Nat.blt_eq] using hd
      ·cases h
     ·cases h
    ·cases h
   ·cases h
  ·cases h
 | .seq a b,x,h=>by
  simp only [bdOf] at h
  split at h
  ·rename_i y hy
   split at h
   ·rename_i z hz;cases h;exact .left (Ei hy) hz
   ·cases h
  ·split at h
   ·rename_i y z hy hz;cases h;exact .right hy (Ei hz)
   ·cases h
 | .region id ops true,_,h=>by cases h
 | .skip,_,h=>by cases h
 | .cond ..,_,h=>by cases h
 | .block ..,_,h=>by cases h
 | .loop ..,_,h=>by cases h
 | .exit ..,_,h=>by cases h
 | .ret,_,h=>by cases h
 | .rangeFunc ..,_,h=>by cases h
 | .scope _,_,h=>by cases h
 | .label _,_,h=>by cases h
 | .goto _,_,h=>by cases h
 | .refuse _,_,h=>by cases h
def isRec (o:Oper):Bool:=match o.op with| .call c=>(match c.callee,c.args.toList with| .builtin .recover,[]=>true|_,_=>false)|_=>false
def isNeq (P:Program) (o:Oper) (t0:Nat):Bool:=match o.op with
 | .binOp .neq ty (.tmp t) (.const .nilIface) _=>Nat.beq t t0 && (match P.underlying ty with|some (.interface _)=>true|_=>false)
 |_=>false
def dgOf (P:Program) (g:Nat) (keep:List Nat):Option DG:=
 match P.funcs[g]? with
 |some fn=>match fn.body,fn.results.toList with
  |some (.seq (.region _ ops false) c2),[]=>(match ops.toList with
   |[o0,o1]=>(match o0.guard,o0.dst,o1.guard,o1.dst,bcOf P keep fn.ntmps (drOf P keep fn.ntmps) c2 with
    |none,some t0,none,some t1,some b=>
     if callable P g && nodupB keep && keep.all (Nat.blt · fn.ntmps) && isRec o0 && isNeq P o1 t0 && Nat.blt t0 fn.ntmps && Nat.blt t1 fn.ntmps then some ⟨g,fn.ntmps,keep,dsOf keep (some t0),dsOf keep (some t1),b⟩ else none
    |_,_,_,_,_=>none)
   |_=>none)
  |_,_=>none
 |none=>none
theorem VZ {g:Nat} {keep:List Nat} {G:DG} (h:dgOf P g keep=some G):Y9 P G:=by
 unfold dgOf at h
 split at h
 case h_2=>cases h
 rename_i fn hfn
 split at h
 case h_2=>cases h
 rename_i id ops c2 hb hres
 split at h
 case h_2=>cases h
 rename_i o0 o1 hops
 have hops:=toList2 hops
 subst hops
 split at h
 case h_2=>cases h
 rename_i t0 t1 b g0 d0 g1 d1 hbc
 split at h
 case isFalse=>cases h
 rename_i hk
 cases h
 simp only [Bool.and_eq_true] at hk
 obtain ⟨⟨⟨⟨⟨⟨k1,k2⟩,k3⟩,k4⟩,k5⟩,k6⟩,k7⟩:=hk
 refine ⟨k1,qP k2,fun d hd=>by simpa [Nat.blt_eq] using List.all_eq_true.1 k3 d hd, ?_⟩
 unfold isRec at k4
 split at k4
 case h_2=>cases k4
 rename_i c hc
 obtain ⟨cal,args,tys⟩:=c
 split at k4
 case h_2=>cases k4
 rename_i abT hargs
 have ha2:args= #[]:=Array.toList_eq_nil_iff.1 hargs
 subst ha2
 have hc2:cal= .builtin .recover:=abT
 subst hc2
 unfold isNeq at k5
 split at k5
 case h_2=>cases k5
 rename_i ty t oty hop
 rw [Bool.and_eq_true] at k5
 obtain ⟨k8,k9⟩:=k5
 have k8:=Nat.eq_of_beq_eq_true k8
 subst k8
 split at k9
 case h_2=>cases k9
 rename_i ms hms
 exact ⟨fn,c2,id,o0,o1,tys,ty,oty,ms,t,t1,hfn,hb,rfl,hres,g0,hc,d0,rfl,by simpa [Nat.blt_eq] using k6,g1,hop,hms,d1,rfl,by simpa [Nat.blt_eq] using k7,hbc⟩
def dfOf (P:Program) (f:Nat) (keep:List Nat) (g:Nat) (XT:List Nat):Option DF:=
 match P.funcs[f]? with
 |some fn=>match fn.body with
  |some c=>match bdOf P keep fn.ntmps c,rssOf P keep fn.results.toList,dgOf P g XT with
   |some b,some rs,some G=>if callable P f && nodupB keep && keep.all (Nat.blt · fn.ntmps) then some ⟨fn.ntmps,keep,b,rs,G⟩ else none
   |_,_,_=>none
  |none=>none
 |none=>none
theorem Za {O:dH} {f:Nat} {b:DF} (h:dfOf P f b.keep b.G.g b.G.keep=some b) (N:Nat):jD P O f (fun D args h=>b.run N D args h):=by
 generalize hk:b.keep=keep at h
 generalize b.G.g=g at h
 generalize b.G.keep=XT at h
 unfold dfOf at h
 split at h
 case h_2=>cases h
 rename_i fn hfn
 split at h
 case h_2=>cases h
 rename_i c hc
 split at h
 case h_2=>cases h
 rename_i bb rs G h1 h2 h3
 split at h
 case isFalse=>cases h
 rename_i uY
 cases h
 rw [Bool.and_eq_true,Bool.and_eq_true] at uY
 obtain ⟨⟨k1,k2⟩,k3⟩:=uY
 exact VY N k1 hfn hc rfl (qP k2) (fun d hd=>by simpa [Nat.blt_eq] using List.all_eq_true.1 k3 d hd) (Ei h1) (yT h2) (VZ h3)
variable {P:Program}
inductive Ent (X:Type) where
 |bc (b:BF)
 |df (b:DF)
 |nat (F:Fn X)
noncomputable def vK {X:Type} (N:Nat) (e:Ent X):Fn X:=match e with| .bc b=>fun D args h=>b.run (fun D=>drR D) N D args h| .df b=>fun D args h=>b.run N D args h| .nat F=>F
theorem QC {O:dH} {f:Nat} {b:DF} (N:Nat) (h:dfOf P f b.keep b.G.g b.G.keep=some b):jD P O f (vK N (.df b)):=Za h N
theorem ai {O:dH} {f:Nat} {b:BF} (N:Nat) (h:bfOf P (drOf P) f b.keep=some b):jD P O f (vK N (.bc b)):=YZ h N
variable {P:Program}
section
variable {X:Type}
def Agr (S:List (Nat×List AV×Hp X)) (D D':Dp X):Prop:=∀x∈S,D x.1 x.2.1 x.2.2≠ .bad->D' x.1 x.2.1 x.2.2=D x.1 x.2.1 x.2.2
theorem Agr.left {S S':List (Nat×List AV×Hp X)} {D D':Dp X} (h:Agr (S++S') D D'):Agr S D D':=fun x hx=>h x (List.mem_append_left _ hx)
theorem Agr.right {S S':List (Nat×List AV×Hp X)} {D D':Dp X} (h:Agr (S++S') D D'):Agr S' D D':=fun x hx=>h x (List.mem_append_right _ hx)
theorem Lj {D:Dp X} {o:Op1} {e:En} {t:List AV} {h:Hp X} (hb:o.run D e t h≠ .bad):∃S,∀D',Agr S D D'->o.run D' e t h=o.run D e t h:=by
 cases o with
 |mov m=>exact ⟨[],fun _ _=>rfl⟩
 |eff f=>exact ⟨[],fun _ _=>rfl⟩
 |pan x=>exact ⟨[],fun _ _=>rfl⟩
 |call f xs=>exact ⟨[(f,(xs.map fun (x:Od)=>x.ev e t),h)],fun D' hD=>hD (f,(xs.map fun (x:Od)=>x.ev e t),h) (List.mem_singleton.2 rfl) hb⟩
 |qO f xs=>
  simp only [Op1.run] at hb ⊢
  cases hf:f.ev e t with
  |func g cs=>rw [hf] at hb;exact ⟨[(g,(xs.map fun (x:Od)=>x.ev e t)++cs,h)],fun D' hD=>hD (g,(xs.map fun (x:Od)=>x.ev e t)++cs,h) (List.mem_singleton.2 rfl) hb⟩
  |meth g fs=>rw [hf] at hb;exact ⟨[(g,fs++(xs.map fun (x:Od)=>x.ev e t),h)],fun D' hD=>hD (g,fs++(xs.map fun (x:Od)=>x.ev e t),h) (List.mem_singleton.2 rfl) hb⟩
  |_=>rw [hf] at hb;exact absurd rfl hb
theorem Jn {D:Dp X}:∀{r:List St1} {e:En} {t:List AV} {h:Hp X},runRg D r e t h≠ .bad->∃S,∀D',Agr S D D'->runRg D' r e t h=runRg D r e t h
 |[],_,_,_,_=>⟨[],fun _ _=>rfl⟩
 | .mk g d o::r,e,t,h,hb=>by
  simp only [runRg] at hb ⊢
  cases hg:gdv g e t with
  |none=>rw [hg] at hb;exact absurd rfl hb
  |some b=>
   rw [hg] at hb
   cases b with
   |false=>exact Jn (r:=r) hb
   |true=>
    simp only [gdR] at hb ⊢
    have ho:o.run D e t h≠ .bad:=fun e=>by rw [e] at hb;exact hb rfl
    obtain ⟨S1,h1⟩:=Lj ho
    cases hr:o.run D e t h with
    |bad=>exact absurd hr ho
    |panic v h'=>exact ⟨S1,fun D' hD=>by rw [h1 D' hD,hr];rfl⟩
    |ret v h'=>
     rw [hr] at hb
     obtain ⟨S2,h2⟩:=Jn (r:=r) (e:=putE d v e) (t:=putT d v t) (h:=h') hb
     exact ⟨S1++S2,fun D' hD=>by rw [h1 D' hD.left,hr];exact h2 D' hD.right⟩
theorem Ej {D:Dp X}:∀{r:Dr} {past:List (Pa X)} {e:En} {t:List AV} {h:Hp X},drGo D r past e t h≠ .bad->∃S,∀D',Agr S D D'->drGo D' r past e t h=drGo D r past e t h
 |[],_,_,_,_,_=>⟨[],fun _ _=>rfl⟩
 |(s,chk)::r,past,e,t,h,hb=>by
  simp only [drGo] at hb ⊢
  cases hg:gdv s.g e t with
  |none=>rw [hg] at hb;exact absurd rfl hb
  |some b=>
   rw [hg] at hb
   cases b with
   |false=>exact Ej (r:=r) hb
   |true=>
    simp only at hb ⊢
    have ho:s.o.run D e t h≠ .bad:=fun e=>by rw [e] at hb;exact hb rfl
    obtain ⟨S1,h1⟩:=Lj ho
    cases hr:s.o.run D e t h with
    |bad=>exact absurd hr ho
    |panic v h'=>exact ⟨S1,fun D' hD=>by rw [h1 D' hD,hr]⟩
    |ret v h'=>
     rw [hr] at hb
     simp only at hb
     cases hpa:paOf s.o e t h v h' with
     |none=>rw [hpa] at hb;exact absurd rfl hb
     |some pa=>
      rw [hpa] at hb
      simp only at hb
      cases hc:chkAll h' past chk with
      |false=>rw [hc] at hb;exact absurd rfl hb
      |true=>
       rw [hc] at hb
       obtain ⟨S2,h2⟩:=Ej (r:=r) (past:=past++[pa]) (e:=putE s.d v e) (t:=putT s.d v t) (h:=h') hb
       exact ⟨S1++S2,fun D' hD=>by rw [h1 D' hD.left,hr];simp only [hpa,hc,cond_true];exact h2 D' hD.right⟩
theorem QE {t:List AV} {x:R X} (h:panR t x≠ .bad):x≠ .bad:=fun e=>by rw [e] at h;exact h rfl
theorem Zb {D:Dp X} {r:Dr} {t:List AV} {h:Hp X} (hb:drR D r t h≠ .bad):∃S,∀D',Agr S D D'->drR D' r t h=drR D r t h:=by
 obtain ⟨S,h1⟩:=Ej (QE hb)
 exact ⟨S,fun D' hD=>by show panR _ _=panR _ _;rw [h1 D' hD]⟩
theorem vM {x:R X} {k:List AV->Hp X->R X} (h:seqR x k≠ .bad):x≠ .bad:=fun e=>by rw [e] at h;exact h rfl
theorem jE {D:Dp X} {N:Nat}:∀{b:BC} {t:List AV} {h:Hp X},b.run D (drR D) N t h≠ .bad->∃S,∀D' N',N<=N'->Agr S D D'->b.run D' (drR D') N' t h=b.run D (drR D) N t h
 | .skip,_,_,_=>⟨[],fun _ _ _ _=>rfl⟩
 | .exit _,_,_,_=>⟨[],fun _ _ _ _=>rfl⟩
 | .ret,_,_,_=>⟨[],fun _ _ _ _=>rfl⟩
 | .reg r,t,h,hb=>by
  obtain ⟨S,h1⟩:=Jn (D:=D) (r:=r) (e:=[]) (t:=t) (h:=h) hb
  exact ⟨S,fun D' N' _ hD=>h1 D' hD⟩
 | .iC r,t,h,hb=>by
  obtain ⟨S,h1⟩:=Zb (D:=D) (r:=r) (t:=t) (h:=h) hb
  exact ⟨S,fun D' N' _ hD=>h1 D' hD⟩
 | .seq a b,t,h,hb=>by
  have e:∀(D:Dp X) N t h,(BC.seq a b).run D (drR D) N t h=seqR (a.run D (drR D) N t h) (b.run D (drR D) N):=fun _ _ _ _=>rfl
  rw [e] at hb
  obtain ⟨S1,h1⟩:=jE (b:=a) (vM hb)
  cases hr:a.run D (drR D) N t h with
  |norm t' h'=>
   rw [hr] at hb
   obtain ⟨S2,h2⟩:=jE (b:=b) (t:=t') (h:=h') hb
   exact ⟨S1++S2,fun D' N' hN hD=>by rw [e,e,h1 D' N' hN hD.left,hr];exact h2 D' N' hN hD.right⟩
  |_=>exact ⟨S1,fun D' N' hN hD=>by rw [e,e,h1 D' N' hN hD,hr];rfl⟩
 | .cond x a b,t,h,hb=>by
  have e:∀(D:Dp X) N t h,(BC.cond x a b).run D (drR D) N t h=F6 (x.ev [] t) (a.run D (drR D) N t h) (b.run D (drR D) N t h):=fun _ _ _ _=>rfl
  rw [e] at hb
  cases hx:x.ev [] t with
  |bool c=>
   rw [hx] at hb
   cases c with
   |true=>obtain ⟨S,h1⟩:=jE (b:=a) hb;exact ⟨S,fun D' N' hN hD=>by rw [e,e,hx];exact h1 D' N' hN hD⟩
   |false=>obtain ⟨S,h1⟩:=jE (b:=b) hb;exact ⟨S,fun D' N' hN hD=>by rw [e,e,hx];exact h1 D' N' hN hD⟩
  |_=>rw [hx] at hb;exact absurd rfl hb
 | .block id a,t,h,hb=>by
  have e:∀(D:Dp X) N t h,(BC.block id a).run D (drR D) N t h=gK id (a.run D (drR D) N t h):=fun _ _ _ _=>rfl
  rw [e] at hb
  have hx:a.run D (drR D) N t h≠ .bad:=fun e=>by rw [e] at hb;exact hb rfl
  obtain ⟨S,h1⟩:=jE (b:=a) hx
  exact ⟨S,fun D' N' hN hD=>by rw [e,e,h1 D' N' hN hD]⟩
 | .loop a,t,h,hb=>by
  have e:∀(D:Dp X) N t h,(BC.loop a).run D (drR D) N t h=eX (a.run D (drR D) N) N t h:=fun _ _ _ _=>rfl
  rw [e] at hb
  have key:∀n t h,eX (a.run D (drR D) N) n t h≠ .bad->∃S,∀D' N' n',N<=N'->n<=n'->Agr S D D'->eX (a.run D' (drR D') N') n' t h=eX (a.run D (drR D) N) n t h:=by
   intro n
   induction n with
   |zero=>intro t h hb;exact absurd rfl hb
   |succ n ih=>
    intro t h hb
    have e2:∀(f:List AV->Hp X->R X) n t h,eX f (n+1) t h=seqR (f t h) (eX f n):=fun _ _ _ _=>rfl
    rw [e2] at hb
    obtain ⟨S1,h1⟩:=jE (b:=a) (vM hb)
    cases hr:a.run D (drR D) N t h with
    |norm t' h'=>
     rw [hr] at hb
     obtain ⟨S2,h2⟩:=ih t' h' hb
     refine ⟨S1++S2,fun D' N' n' hN hn hD=> ?_⟩
     obtain ⟨k,rfl⟩:∃k,n'=k+1:=⟨n' - 1,by omega⟩
     rw [e2,e2,h1 D' N' hN hD.left,hr]
     exact h2 D' N' k hN (by omega) hD.right
    |_=>
     refine ⟨S1,fun D' N' n' hN hn hD=> ?_⟩
     obtain ⟨k,rfl⟩:∃k,n'=k+1:=⟨n' - 1,by omega⟩
     rw [e2,e2,h1 D' N' hN hD,hr]
     rfl
  obtain ⟨S,h1⟩:=key N t h hb
  exact ⟨S,fun D' N' hN hD=>by rw [e,e];exact h1 D' N' N' hN hN hD⟩
theorem QG {D:Dp X} {N:Nat} {b:BF} {args:List AV} {h:Hp X} (hb:b.run (fun D=>drR D) N D args h≠ .bad):∃S,∀D' N',N<=N'->Agr S D D'->b.run (fun D=>drR D) N' D' args h=b.run (fun D=>drR D) N D args h:=by
 have e:∀(D:Dp X) N,b.run (fun D=>drR D) N D args h=(bif Nat.ble args.length b.nt then finR b.res (b.body.run D (drR D) N (b.keep.map fun d=>getS args d) h) else .bad):=fun _ _=>rfl
 rw [e] at hb
 cases hl:Nat.ble args.length b.nt with
 |false=>rw [hl] at hb;exact absurd rfl hb
 |true=>
  rw [hl] at hb
  have hx:b.body.run D (drR D) N (b.keep.map fun d=>getS args d) h≠ .bad:=fun e=>by rw [e] at hb;exact hb rfl
  obtain ⟨S,h1⟩:=jE hx
  exact ⟨S,fun D' N' hN hD=>by rw [e,e,h1 D' N' hN hD]⟩
theorem Jo {D:Dp X} {N:Nat}:∀{b:BD} {t:List AV} {h:Hp X} {f:AV} {r:R X},b.run (fun b t h=>b.run D (drR D) N t h) t h=some (f,r)->r≠ .bad->∃S,∀D' N',N<=N'->Agr S D D'->b.run (fun b t h=>b.run D' (drR D') N' t h) t h=some (f,r)
 | .here m d x,t,h,f,r,hr,_=>⟨[],fun _ _ _ _=>hr⟩
 | .left a b,t,h,f,r,hr,hb=>by
  simp only [BD.run] at hr
  cases hx:a.run (fun b t h=>b.run D (drR D) N t h) t h with
  |none=>rw [hx] at hr;cases hr
  |some p=>
   obtain ⟨f1,r1⟩:=p
   rw [hx] at hr
   simp only [Option.some.injEq,Prod.mk.injEq] at hr
   obtain ⟨rfl,rfl⟩:=hr
   obtain ⟨S1,h1⟩:=Jo hx (vM hb)
   cases r1 with
   |norm t' h'=>
    obtain ⟨S2,h2⟩:=jE (b:=b) (t:=t') (h:=h') hb
    exact ⟨S1++S2,fun D' N' hN hD=>by simp only [BD.run];rw [h1 D' N' hN hD.left];simp only [seqR];rw [h2 D' N' hN hD.right]⟩
   |_=>exact ⟨S1,fun D' N' hN hD=>by simp only [BD.run];rw [h1 D' N' hN hD];simp only [seqR]⟩
 | .right a b,t,h,f,r,hr,hb=>by
  simp only [BD.run] at hr
  cases hx:a.run D (drR D) N t h with
  |norm t' h'=>
   rw [hx] at hr
   obtain ⟨S1,h1⟩:=jE (b:=a) (t:=t) (h:=h) (by rw [hx];intro e;cases e)
   obtain ⟨S2,h2⟩:=Jo (b:=b) hr hb
   exact ⟨S1++S2,fun D' N' hN hD=>by simp only [BD.run];rw [h1 D' N' hN hD.left,hx];exact h2 D' N' hN hD.right⟩
  |_=>rw [hx] at hr;cases hr
theorem Zc {D:Dp X} {N:Nat} {G:DG} {pan:Bool} {cs:List AV} {h h':Hp X} (hr:G.run (fun b t h=>b.run D (drR D) N t h) pan cs h=some h'):∃S,∀D' N',N<=N'->Agr S D D'->G.run (fun b t h=>b.run D' (drR D') N' t h) pan cs h=some h':=by
 unfold DG.run at hr ⊢
 cases hl:Nat.ble cs.length G.nt with
 |false=>rw [hl] at hr;cases hr
 |true=>
  rw [hl] at hr
  simp only [cond_true] at hr ⊢
  have hb:G.body.run D (drR D) N (putT G.d1 (.bool pan) (putT G.d0 .bot (G.keep.map fun d=>getS cs d))) h≠ .bad:=fun e=>by rw [e] at hr;cases hr
  obtain ⟨S,h1⟩:=jE hb
  exact ⟨S,fun D' N' hN hD=>by rw [h1 D' N' hN hD];exact hr⟩
theorem QH {D:Dp X} {N:Nat} {b:DF} {args:List AV} {h:Hp X} (hb:b.run N D args h≠ .bad):∃S,∀D' N',N<=N'->Agr S D D'->b.run N' D' args h=b.run N D args h:=by
 have e:∀(D:Dp X) N,b.run N D args h=(bif Nat.ble args.length b.nt then endD (fun b t h=>b.run D (drR D) N t h) b (b.body.run (fun b t h=>b.run D (drR D) N t h) (b.keep.map fun d=>getS args d) h) else .bad):=fun _ _=>rfl
 rw [e] at hb
 cases hl:Nat.ble args.length b.nt with
 |false=>rw [hl] at hb;exact absurd rfl hb
 |true=>
  rw [hl] at hb
  simp only [cond_true] at hb
  cases hx:b.body.run (fun b t h=>b.run D (drR D) N t h) (b.keep.map fun d=>getS args d) h with
  |none=>rw [hx] at hb;exact absurd rfl hb
  |some p=>
   obtain ⟨f,r⟩:=p
   rw [hx] at hb
   have hr:r≠ .bad:=fun e=>by
    subst e
    cases f<;>first|exact hb rfl|skip
    simp only [endD] at hb
    rename_i g cs
    cases hg:Nat.beq g b.G.g<;>rw [hg] at hb<;>exact hb rfl
   obtain ⟨S1,h1⟩:=Jo hx hr
   cases f<;>first|exact absurd rfl hb|skip
   rename_i g cs
   simp only [endD] at hb
   cases hg:Nat.beq g b.G.g with
   |false=>rw [hg] at hb;exact absurd rfl hb
   |true=>
    rw [hg] at hb
    simp only [cond_true] at hb
    cases hy:howR r with
    |none=>rw [hy] at hb;exact absurd rfl hb
    |some q=>
     obtain ⟨pan,t1,h1'⟩:=q
     rw [hy] at hb
     simp only at hb
     cases hG:b.G.run (fun b t h=>b.run D (drR D) N t h) pan cs h1' with
     |none=>rw [hG] at hb;exact absurd rfl hb
     |some h2=>
      obtain ⟨S2,h3⟩:=Zc hG
      refine ⟨S1++S2,fun D' N' hN hD=> ?_⟩
      rw [e,e,hl,hx,h1 D' N' hN hD.left]
      simp only [cond_true,endD,hg,hy]
      rw [h3 D' N' hN hD.right,hG]
def Ent.plain (e:Ent X):Prop:=match e with| .bc _=>True| .df _=>True| .nat F=>∀D D',F D=F D'
noncomputable def dl (E:Nat->Option (Ent X)) (n:Nat):Dp X:=
 Nat.rec (motive:=fun _=>Dp X) (fun _ _ _=> .bad) (fun n ih f args h=>Be ((E f).map (vK n)) ih args h) n
theorem QI {E:Nat->Option (Ent X)} (hE:∀f e,E f=some e->e.plain):∀n f a h,dl E n f a h≠ .bad->dl E (n+1) f a h=dl E n f a h
 |0,f,a,h,hb=>absurd rfl hb
 |n+1,f,a,h,hb=>by
  have e:∀n,dl E (n+1) f a h=Be ((E f).map (vK n)) (dl E n) a h:=fun _=>rfl
  rw [e] at hb
  rw [e,e]
  cases hf:E f with
  |none=>rw [hf] at hb;exact absurd rfl hb
  |some en=>
   rw [hf] at hb
   cases en with
   |nat F=>exact congrFun (congrFun (hE f _ hf _ _) _) _
   |df b=>
    obtain ⟨S,h1⟩:=QH (b:=b) (N:=n) (D:=dl E n) (args:=a) (h:=h) hb
    exact h1 (dl E (n+1)) (n+1) (Nat.le_succ n) fun x _ hx=>QI hE n _ _ _ hx
   |bc b=>
    obtain ⟨S,h1⟩:=QG (b:=b) (N:=n) (D:=dl E n) (args:=a) (h:=h) hb
    exact h1 (dl E (n+1)) (n+1) (Nat.le_succ n) fun x _ hx=>QI hE n _ _ _ hx
theorem QJ {E:Nat->Option (Ent X)} (hE:∀f e,E f=some e->e.plain) {n m:Nat} (hnm:n<=m) {f:Nat} {a:List AV} {h:Hp X} (hb:dl E n f a h≠ .bad):dl E m f a h=dl E n f a h:=by
 induction hnm with
 |refl=>rfl
 |step _ ih=>rw [QI hE _ _ _ _ (by rw [ih];exact hb),ih]
open Classical in
noncomputable def lim (E:Nat->Option (Ent X)):Dp X:=fun f a h=>if hx:∃n,dl E n f a h≠ .bad then dl E (Classical.choose hx) f a h else .bad
theorem Jp {E:Nat->Option (Ent X)} (hE:∀f e,E f=some e->e.plain) {n f:Nat} {a:List AV} {h:Hp X} (hb:dl E n f a h≠ .bad):lim E f a h=dl E n f a h:=by
 have hx:∃n,dl E n f a h≠ .bad:=⟨n,hb⟩
 unfold lim
 rw [dif_pos hx]
 rcases Nat.le_total n (Classical.choose hx) with hle|hle
 ·exact QJ hE hle hb
 ·exact (QJ hE hle (Classical.choose_spec hx)).symm
theorem QK {E:Nat->Option (Ent X)} {f:Nat} {a:List AV} {h:Hp X} (hb:lim E f a h≠ .bad):∃n,dl E n f a h=lim E f a h:=by
 unfold lim at hb ⊢
 by_cases hx:∃n,dl E n f a h≠ .bad
 ·rw [dif_pos hx];exact ⟨_,rfl⟩
 ·rw [dif_neg hx] at hb;exact absurd rfl hb
theorem Em {E:Nat->Option (Ent X)} (hE:∀f e,E f=some e->e.plain):∀S:List (Nat×List AV×Hp X),∃n,∀m,n<=m->Agr S (lim E) (dl E m)
 |[]=>⟨0,fun _ _ x hx=>by cases hx⟩
 |y::S=>by
  obtain ⟨n,hn⟩:=Em hE S
  by_cases hy:lim E y.1 y.2.1 y.2.2= .bad
  ·refine ⟨n,fun m hm x hx hb=> ?_⟩
   rcases List.mem_cons.1 hx with rfl|hx
   ·exact absurd hy hb
   ·exact hn m hm x hx hb
  ·obtain ⟨k,hk⟩:=QK hy
   refine ⟨max n k,fun m hm x hx hb=> ?_⟩
   rcases List.mem_cons.1 hx with rfl|hx
   ·rw [<-hk];exact QJ hE (by omega) (by rw [hk];exact hy)
   ·exact hn m (by omega) x hx hb
theorem Zd {E:Nat->Option (Ent X)} (hE:∀f e,E f=some e->e.plain) {f:Nat} {b:BF} (hf:E f=some (.bc b)) {N:Nat} {a:List AV} {h:Hp X} (hb:b.run (fun D=>drR D) N (lim E) a h≠ .bad):lim E f a h=b.run (fun D=>drR D) N (lim E) a h:=by
 obtain ⟨S,h1⟩:=QG hb
 obtain ⟨n,hn⟩:=Em hE S
 have h2:=h1 (dl E (max n N)) (max n N) (by omega) (hn _ (by omega))
 have h3:dl E (max n N+1) f a h=b.run (fun D=>drR D) (max n N) (dl E (max n N)) a h:=by
  show Be ((E f).map (vK (max n N))) (dl E (max n N)) a h=_
  rw [hf]
  rfl
 rw [<-h2,<-h3]
 exact Jp hE (by rw [h3,h2];exact hb)
theorem Ze {E:Nat->Option (Ent X)} (hE:∀f e,E f=some e->e.plain) {f:Nat} {b:DF} (hf:E f=some (.df b)) {N:Nat} {a:List AV} {h:Hp X} (hb:b.run N (lim E) a h≠ .bad):lim E f a h=b.run N (lim E) a h:=by
 obtain ⟨S,h1⟩:=QH hb
 obtain ⟨n,hn⟩:=Em hE S
 have h2:=h1 (dl E (max n N)) (max n N) (by omega) (hn _ (by omega))
 have h3:dl E (max n N+1) f a h=b.run (max n N) (dl E (max n N)) a h:=by
  show Be ((E f).map (vK (max n N))) (dl E (max n N)) a h=_
  rw [hf]
  rfl
 rw [<-h2,<-h3]
 exact Jp hE (by rw [h3,h2];exact hb)
theorem iP {E:Nat->Option (Ent X)} (hE:∀f e,E f=some e->e.plain) {f:Nat} {F:Fn X} (hf:E f=some (.nat F)) {D:Dp X} {a:List AV} {h:Hp X} (hb:F D a h≠ .bad):lim E f a h=F D a h:=by
 have h3:dl E 1 f a h=F D a h:=by
  show Be ((E f).map (vK 0)) (dl E 0) a h=_
  rw [hf]
  exact congrFun (congrFun (hE f _ hf _ _) _) _
 rw [<-h3]
 exact Jp hE (by rw [h3];exact hb)
end
theorem Jq {O:dH} {E:Nat->Option (Ent O.X)} (hF:∀f e,E f=some e->∀N,jD P O f (vK N e)):DS P O (lim E):=by
 have h1:∀n,DS P O (dl E n):=by
  intro n
  induction n with
  |zero=>exact fun f args h hb=>absurd rfl hb
  |succ n ih=>
   intro f args h hb
   have e:dl E (n+1) f args h=Be ((E f).map (vK n)) (dl E n) args h:=rfl
   rw [e] at hb ⊢
   cases hf:E f with
   |none=>rw [hf] at hb;exact absurd rfl hb
   |some en=>
    rw [hf] at hb
    obtain ⟨h1,h2⟩:=hF f en hf n
    exact ⟨h1,h2 ih args h hb⟩
 intro f args h hb
 obtain ⟨n,hn⟩:=QK hb
 rw [<-hn] at hb ⊢
 exact h1 n f args h hb
section
variable {X:Type} {D:Dp X}
def Goes (D:Dp X) (b:BC) (t:List AV) (h:Hp X) (r:R X):Prop:=r≠ .bad/\∃N,b.run D (drR D) N t h=r
theorem Goes.le {b:BC} {t:List AV} {h:Hp X} {r:R X} (H:Goes D b t h r):∃n,∀m,n<=m->b.run D (drR D) m t h=r:=by
 obtain ⟨h1,N,h2⟩:=H
 obtain ⟨S,h3⟩:=jE (b:=b) (D:=D) (N:=N) (t:=t) (h:=h) (by rw [h2];exact h1)
 exact ⟨N,fun m hm=>by rw [h3 D m hm (fun _ _ _=>rfl),h2]⟩
theorem NP {t:List AV} {h:Hp X}:Goes D .skip t h (.norm t h):=⟨(fun e=>by cases e),0,rfl⟩
theorem goes_exit {k:Nat} {t:List AV} {h:Hp X}:Goes D (.exit k) t h (.brk k t h):=⟨(fun e=>by cases e),0,rfl⟩
theorem QL {t:List AV} {h:Hp X}:Goes D .ret t h (.ret t h):=⟨(fun e=>by cases e),0,rfl⟩
theorem QM {l:List St1} {t:List AV} {h:Hp X} {r:R X} (hb:r≠ .bad) (H:runRg D l [] t h=r):Goes D (.reg l) t h r:=⟨hb,0,H⟩
theorem Ce {l:Dr} {t:List AV} {h:Hp X} {r:R X} (hb:r≠ .bad) (H:drR D l t h=r):Goes D (.iC l) t h r:=⟨hb,0,H⟩
theorem QN {a b:BC} {t t1:List AV} {h h1:Hp X} {r:R X} (H1:Goes D a t h (.norm t1 h1)) (H2:Goes D b t1 h1 r):Goes D (.seq a b) t h r:=by
 obtain ⟨n1,g1⟩:=H1.le
 obtain ⟨n2,g2⟩:=H2.le
 refine ⟨H2.1,max n1 n2, ?_⟩
 show seqR (a.run D (drR D) (max n1 n2) t h) (b.run D (drR D) (max n1 n2))=r
 rw [g1 _ (by omega)]
 exact g2 _ (by omega)
def R.left (r:R X):Prop:=match r with| .norm ..=>False| .bad=>False|_=>True
theorem Az {a b:BC} {t:List AV} {h:Hp X} {r:R X} (hr:r.left) (H1:Goes D a t h r):Goes D (.seq a b) t h r:=by
 obtain ⟨g0,N,g1⟩:=H1
 refine ⟨g0,N, ?_⟩
 show seqR (a.run D (drR D) N t h) (b.run D (drR D) N)=r
 rw [g1]
 cases r<;>first|exact hr.elim|rfl
theorem goes_true {x:Od} {a b:BC} {t:List AV} {h:Hp X} {r:R X} (hx:x.ev [] t= .bool true) (H:Goes D a t h r):Goes D (.cond x a b) t h r:=by
 obtain ⟨g0,N,g1⟩:=H
 refine ⟨g0,N, ?_⟩
 show F6 (x.ev [] t) (a.run D (drR D) N t h) (b.run D (drR D) N t h)=r
 rw [hx]
 exact g1
theorem Jr {x:Od} {a b:BC} {t:List AV} {h:Hp X} {r:R X} (hx:x.ev [] t= .bool false) (H:Goes D b t h r):Goes D (.cond x a b) t h r:=by
 obtain ⟨g0,N,g1⟩:=H
 refine ⟨g0,N, ?_⟩
 show F6 (x.ev [] t) (a.run D (drR D) N t h) (b.run D (drR D) N t h)=r
 rw [hx]
 exact g1
theorem lT {id:Nat} {a:BC} {t:List AV} {h:Hp X} {r:R X} (H:Goes D a t h r) (hb:gK id r≠ .bad):Goes D (.block id a) t h (gK id r):=by
 obtain ⟨g0,N,g1⟩:=H
 refine ⟨hb,N, ?_⟩
 show gK id (a.run D (drR D) N t h)=_
 rw [g1]
theorem Cf {a:BC} {t t1:List AV} {h h1:Hp X} {r:R X} (H1:Goes D a t h (.norm t1 h1)) (H2:Goes D (.loop a) t1 h1 r):Goes D (.loop a) t h r:=by
 obtain ⟨n1,g1⟩:=H1.le
 obtain ⟨h0,N,g2⟩:=H2
 obtain ⟨S,h3⟩:=jE (b:= .loop a) (D:=D) (N:=N) (t:=t1) (h:=h1) (by rw [g2];exact h0)
 have e:∀N t h,(BC.loop a).run D (drR D) N t h=eX (a.run D (drR D) N) N t h:=fun _ _ _=>rfl
 have g3:∀M,N<=M->eX (a.run D (drR D) M) M t1 h1=r:=fun M hM=>by rw [<-e,h3 D M hM (fun _ _ _=>rfl),g2]
 have key:∀(f:List AV->Hp X->R X) n t h,eX f n t h≠ .bad->eX f (n+1) t h=eX f n t h:=by
  intro f n
  induction n with
  |zero=>intro t h hb;exact absurd rfl hb
  |succ n ih=>
   intro t h hb
   have e2:∀n t h,eX f (n+1) t h=seqR (f t h) (eX f n):=fun _ _ _=>rfl
   rw [e2] at hb
   rw [e2,e2]
   cases hr:f t h with
   |norm t' h'=>rw [hr] at hb;exact ih t' h' hb
   |_=>rfl
 refine ⟨h0,max n1 N+1, ?_⟩
 rw [e]
 show seqR (a.run D (drR D) (max n1 N+1) t h) (eX (a.run D (drR D) (max n1 N+1)) (max n1 N))=r
 rw [g1 _ (by omega)]
 show eX (a.run D (drR D) (max n1 N+1)) (max n1 N) t1 h1=r
 have hM:=g3 (max n1 N) (by omega)
 have hM1:=g3 (max n1 N+1) (by omega)
 have abU:∀n t h,eX (a.run D (drR D) (max n1 N)) n t h≠ .bad->eX (a.run D (drR D) (max n1 N+1)) n t h=eX (a.run D (drR D) (max n1 N)) n t h:=by
  intro n
  induction n with
  |zero=>intro t h hb;exact absurd rfl hb
  |succ n ih=>
   intro t h hb
   have e2:∀(f:List AV->Hp X->R X) n t h,eX f (n+1) t h=seqR (f t h) (eX f n):=fun _ _ _ _=>rfl
   rw [e2] at hb
   rw [e2,e2]
   obtain ⟨S2,h5⟩:=jE (b:=a) (D:=D) (N:=max n1 N) (t:=t) (h:=h) (vM hb)
   rw [h5 D (max n1 N+1) (Nat.le_succ _) (fun _ _ _=>rfl)]
   cases hr:a.run D (drR D) (max n1 N) t h with
   |norm t' h'=>rw [hr] at hb;exact ih t' h' hb
   |_=>rfl
 rw [abU _ _ _ (by rw [hM];exact h0),hM]
theorem qY {a:BC} {t:List AV} {h:Hp X} {r:R X} (hr:r.left) (H1:Goes D a t h r):Goes D (.loop a) t h r:=by
 obtain ⟨n1,g1⟩:=H1.le
 refine ⟨H1.1,n1+1, ?_⟩
 show seqR (a.run D (drR D) (n1+1) t h) (eX (a.run D (drR D) (n1+1)) n1)=r
 rw [g1 _ (by omega)]
 cases r<;>first|exact hr.elim|rfl
theorem xh {E:Nat->Option (Ent X)} (hE:∀f e,E f=some e->e.plain) {f:Nat} {b:BF} (hf:E f=some (.bc b)) {a:List AV} {h:Hp X} {r:R X} (hl:Nat.ble a.length b.nt=true) (H:Goes (lim E) b.body (b.keep.map fun d=>getS a d) h r) (hr:finR b.res r≠ .bad):lim E f a h=finR b.res r:=by
 obtain ⟨g0,N,g1⟩:=H
 have e:b.run (fun D=>drR D) N (lim E) a h=finR b.res r:=by
  show (bif Nat.ble a.length b.nt then finR b.res (b.body.run (lim E) (drR (lim E)) N (b.keep.map fun d=>getS a d) h) else .bad)=_
  rw [hl,g1]
  rfl
 rw [Zd hE hf (N:=N) (by rw [e];exact hr),e]
end
section
variable {X:Type}
theorem dK {a b:Nat} (h:a<=b):Nat.ble a b=true:=Nat.ble_eq_true_of_le h
theorem lu {h h':Hp X} {g:Nat} (e:h'.get g=h.get g):rowOf h' g=rowOf h g:=by unfold rowOf;rw [e]
theorem eF {h:Hp X} {g:Nat} {l:List AV} (e:h.get g=some (.rw l)):rowOf h g=some l:=by unfold rowOf;rw [e]
@[simp] theorem bJ (h:Hp X) (c:AB X):(h.push c).n=h.n+1:=rfl
@[simp] theorem qZ (h:Hp X) (g:Nat) (c:AB X):(h.put g c).n=h.n:=rfl
@[simp] theorem del_n (h:Hp X) (g:Nat):(h.del g).n=h.n:=rfl
structure Keep (S:Nat->Prop) (h h':Hp X):Prop where
 n:h.n<=h'.n
 get:∀g,g < h.n->¬S g->h'.get g=h.get g
def NoB:Nat->Prop:=fun _=>False
def az (g:Nat):Nat->Prop:=fun k=>k=g
theorem Keep.refl (S:Nat->Prop) (h:Hp X):Keep S h h:=⟨Nat.le_refl _,fun _ _ _=>rfl⟩
theorem Keep.trans {S T:Nat->Prop} {h h1 h2:Hp X} (a:Keep S h h1) (b:Keep T h1 h2) (hT:∀g,g < h.n->T g->S g):Keep S h h2:=
 ⟨Nat.le_trans a.n b.n,fun g hg hs=>by rw [b.get g (Nat.lt_of_lt_of_le hg a.n) (fun ht=>hs (hT g hg ht)),a.get g hg hs]⟩
theorem Keep.mono {S T:Nat->Prop} {h h1:Hp X} (a:Keep S h h1) (hs:∀g,g < h.n->S g->T g):Keep T h h1:=⟨a.n,fun g hg ht=>a.get g hg fun q=>ht (hs g hg q)⟩
theorem Keep.push (S:Nat->Prop) (h:Hp X) (c:AB X):Keep S h (h.push c):=⟨Nat.le_succ _,fun g hg _=>Hp.yg h c (by omega)⟩
theorem Keep.put (h:Hp X) (g:Nat) (c:AB X) {S:Nat->Prop} (hs:S g):Keep S h (h.put g c):=⟨Nat.le_refl _,fun k _ hk=>Hp.iQ h g c (fun e=>hk (e▸hs))⟩
theorem Keep.del (h:Hp X) (g:Nat) {S:Nat->Prop} (hs:S g):Keep S h (h.del g):=⟨Nat.le_refl _,fun k _ hk=>Hp.Yp h g (fun e=>hk (e▸hs))⟩
def blk (v:AV):Nat->Prop:=match v with| .slice _ g _ _ _=>az g| .ptr g _=>az g|_=>NoB
def RS (h:Hp X) (z:Nat) (v:AV) (n:Nat) (cells:List AV):Prop:=
 match v with
 | .ae=>n=0/\cells=[]
 | .bV=>n=0/\cells=[]
 | .slice z' g o n' _=>z'=z/\n'=n/\g < h.n/\∃l,rowOf h g=some l/\o+n*z<=l.length/\cells=(l.drop o).take (n*z)
 |_=>False
theorem RS.keep {S:Nat->Prop} {h h':Hp X} {z n:Nat} {v:AV} {cells:List AV} (a:RS h z v n cells) (k:Keep S h h') (hs:∀g,blk v g->¬S g):RS h' z v n cells:=by
 cases v<;>first|exact a|skip
 obtain ⟨h1,h2,h3,l,h4,h5⟩:=a
 exact ⟨h1,h2,Nat.lt_of_lt_of_le h3 k.n,l,by rw [lu (k.get _ h3 (hs _ rfl))];exact h4,h5⟩
theorem RS.len {h:Hp X} {z n:Nat} {v:AV} {cells:List AV} (a:RS h z v n cells):cells.length=n*z:=by
 cases v<;>first|exact a.elim|skip
 ·obtain ⟨_,_,_,l,_,h5,rfl⟩:=a
  rw [List.length_take,List.length_drop]
  omega
 ·obtain ⟨rfl,rfl⟩:=a;simp
 ·obtain ⟨rfl,rfl⟩:=a;simp
theorem RS.lt {h:Hp X} {z n:Nat} {v:AV} {cells:List AV} (a:RS h z v n cells):∀g,blk v g->g < h.n:=by
 intro g hg
 cases v<;>first|exact a.elim|exact hg.elim|skip
 obtain ⟨_,_,h3,_⟩:=a
 cases hg
 exact h3
theorem RS.elems {h:Hp X} {z n:Nat} {v:AV} {cells:List AV} (a:RS h z v n cells):elems h z v=some (n,cells):=by
 cases v<;>first|exact a.elim|skip
 ·obtain ⟨rfl,rfl,_,l,h4,h5,rfl⟩:=a
  unfold Am.elems takeN
  simp only [Nat.beq_refl,cond_true,h4,dK h5]
 ·obtain ⟨rfl,rfl⟩:=a;rfl
 ·obtain ⟨rfl,rfl⟩:=a;rfl
def OS (h:Hp X) (z:Nat) (v:AV) (n:Nat) (cells:List AV):Prop:=
 match v with
 | .ae=>n=0/\cells=[]
 | .slice z' g o n' cap=>z'=z/\n'=n/\0 < z/\g < h.n/\∃l,h.get g=some (.rw l)/\o+n*z<=l.length/\cells=(l.drop o).take (n*z)/\(match cap with|none=>True|some k=>n<=k/\o+k*z<=l.length)
 |_=>False
theorem OS.rs {h:Hp X} {z n:Nat} {v:AV} {cells:List AV} (a:OS h z v n cells):RS h z v n cells:=by
 cases v<;>first|exact a|exact a.elim|skip
 obtain ⟨h1,h2,_,h3,l,h4,h5,h6,_⟩:=a
 exact ⟨h1,h2,h3,l,eF h4,h5,h6⟩
theorem OS.keep {S:Nat->Prop} {h h':Hp X} {z n:Nat} {v:AV} {cells:List AV} (a:OS h z v n cells) (k:Keep S h h') (hs:∀g,blk v g->¬S g):OS h' z v n cells:=by
 cases v<;>first|exact a|skip
 obtain ⟨h1,h2,h0,h3,l,h4,h5⟩:=a
 exact ⟨h1,h2,h0,Nat.lt_of_lt_of_le h3 k.n,l,by rw [k.get _ h3 (hs _ rfl)];exact h4,h5⟩
theorem OS.lt {h:Hp X} {z n:Nat} {v:AV} {cells:List AV} (a:OS h z v n cells):∀g,blk v g->g < h.n:=a.rs.lt
theorem OS.len {h:Hp X} {z n:Nat} {v:AV} {cells:List AV} (a:OS h z v n cells):cells.length=n*z:=a.rs.len
theorem QO {off k:Nat} {vs l:List AV} (h1:off+k=off+k) (hl:off+k+vs.length<=l.length) {o:Nat} (ho:o+0=off):((spl (off+k) vs l).drop o).take (k+vs.length)=(l.drop o).take k++vs:=by
 have e:o=off:=by omega
 subst e
 unfold spl
 have h2:(List.take (o+k) l).length=o+k:=by rw [List.length_take];omega
 rw [List.drop_append_of_le_length (by omega),List.take_append,List.drop_take,List.length_take,List.length_drop]
 have e1:o+k - o=k:=by omega
 rw [e1]
 have e2:min k (l.length - o)=k:=by omega
 rw [e2,List.take_take]
 have e3:min (k+vs.length) k=k:=by omega
 have e4:k+vs.length - k=vs.length:=by omega
 rw [e3,e4,List.take_append_of_le_length (Nat.le_refl _),List.take_length]
theorem GM {off:Nat} {vs l:List AV} (h:off+vs.length<=l.length):(spl off vs l).length=l.length:=by
 unfold spl
 simp only [List.length_append,List.length_take,List.length_drop]
 omega
theorem OS.app {h:Hp X} {z by' n m:Nat} {v:AV} {cells vs:List AV} (a:OS h z v n cells) (hz:0 < z) (hv:vs.length=m*z) (h1:(n+m)*by'<=140737488355328) (h2:n+m<=maxLen):
  ∃v' h',appA h z by' v m vs=some (v',h')/\OS h' z v' (n+m) (cells++vs)/\Keep (blk v) h h'/\(∀g,blk v' g->blk v g\/h.n<=g):=by
 by_cases hm:m=0
 ·subst hm
  have hv0:vs=[]:=List.eq_nil_of_length_eq_zero (by simpa using hv)
  subst hv0
  refine ⟨v,h, ?_,by simpa using a,Keep.refl _ _,fun g hg=> .inl hg⟩
  unfold appA
  cases v<;>first|exact a.elim|rfl
 ·have hm':Nat.beq m 0=false:=tY hm
  cases v<;>first|exact a.elim|skip
  ·rename_i z' g o n' cap
   obtain ⟨rfl,rfl,_,hg,l,hl,hlen,rfl,hcap⟩:=a
   have hc:(Nat.beq z' z' && Nat.ble ((n'+m)*by') 140737488355328 && Nat.ble (n'+m) maxLen)=true:=by rw [Nat.beq_refl,dK h1,dK h2];rfl
   have hmz:(n'+m)*z'=n'*z'+m*z':=Nat.add_mul ..
   have aaF:o+(n'+m)*z'<=l.length->∀cap':Option Nat,(match cap' with|none=>True|some k=>n'+m<=k/\o+k*z'<=l.length)->
     OS (h.put g (.rw (spl (o+n'*z') vs l))) z' (.slice z' g o (n'+m) cap') (n'+m) ((l.drop o).take (n'*z')++vs):=fun hle cap' hc'=>by
    have hs:=GM (off:=o+n'*z') (vs:=vs) (l:=l) (by omega)
    refine ⟨rfl,rfl,hz,hg,_,Hp.bW _ _ _,by rw [hs];exact hle, ?_, ?_⟩
    ·rw [hmz,<-hv]
     exact (QO (o:=o) (off:=o) (k:=n'*z') (vs:=vs) (l:=l) rfl (by omega) (by omega)).symm
    ·cases cap' with
     |none=>trivial
     |some k=>exact ⟨hc'.1,by rw [hs];exact hc'.2⟩
   have copy:∀h0:Hp X,h0.n=h.n->OS (h0.push (.rw ((l.drop o).take (n'*z')++vs))) z' (.slice z' h0.n 0 (n'+m) none) (n'+m) ((l.drop o).take (n'*z')++vs):=fun h0 e0=>by
    have hl2:((l.drop o).take (n'*z')++vs).length=(n'+m)*z':=by rw [List.length_append,List.length_take,List.length_drop,hv];omega
    refine ⟨rfl,rfl,hz,Nat.lt_succ_self _,_,Hp.aK _ _,by omega, ?_,trivial⟩
    rw [<-hl2,List.drop_zero,List.take_length]
   have htk:takeN (n'*z') o l=some ((l.drop o).take (n'*z')):=by unfold takeN;rw [dK hlen];rfl
   unfold appA
   rw [hm']
   simp only [cond_false,hc,Bool.not_true]
   cases cap with
   |some k=>
    simp only at hcap ⊢
    cases hb:Nat.ble (n'+m) k with
    |true=>
     have hb:=Nat.le_of_ble_eq_true hb
     have hkz:(n'+m)*z'<=k*z':=Nat.mul_le_mul_right _ hb
     simp only [cond_true,hl]
     rw [dK (show o+(n'+m)*z'<=l.length by omega)]
     exact ⟨_,_,rfl,aaF (by omega) (some k) ⟨hb,hcap.2⟩,Keep.put _ _ _ rfl,fun g' hg'=> .inl hg'⟩
    |false=>
     simp only [cond_false,eF hl,htk]
     exact ⟨_,_,rfl,copy h rfl,Keep.push _ _ _,fun g' hg'=> .inr (by cases hg';exact Nat.le_refl _)⟩
   |none=>
    simp only [hl]
    cases hb:Nat.ble (o+(n'+m)*z') l.length with
    |true=>
     simp only [cond_true]
     exact ⟨_,_,rfl,aaF (Nat.le_of_ble_eq_true hb) none trivial,Keep.put _ _ _ rfl,fun g' hg'=> .inl hg'⟩
    |false=>
     simp only [cond_false,htk]
     refine ⟨_,_,rfl,copy (h.del g) rfl,(Keep.del (S:=blk (.slice z' g o n' none)) h g rfl).trans (Keep.push NoB _ _) (fun _ _ q=>q.elim),fun g' hg'=> .inr (by cases hg';exact Nat.le_refl _)⟩
  ·obtain ⟨rfl,rfl⟩:=a
   unfold appA
   rw [hm']
   rw [Nat.zero_add] at h1 h2
   simp only [cond_false,dK h1,dK h2,Bool.and_self,cond_true]
   refine ⟨_,_,rfl,⟨rfl,by omega,hz,Nat.lt_succ_self _,vs,Hp.aK _ _,by rw [Nat.zero_add,Nat.zero_add,hv];exact Nat.le_refl _, ?_,trivial⟩,Keep.push _ _ _,fun g' hg'=> .inr (by cases hg';exact Nat.le_refl _)⟩
   rw [Nat.zero_add,<-hv,List.drop_zero,List.take_length,List.nil_append]
end
section
variable {X:Type} {D:Dp X}
structure WR (D:Dp X) (l:List St1) (e:En) (t:List AV) (h:Hp X) (Q:R X->Prop):Prop where
 out:∃r,runRg D l e t h=r/\r≠ .bad/\Q r
structure WB (D:Dp X) (b:BC) (t:List AV) (h:Hp X) (Q:R X->Prop):Prop where
 out:∃r,Goes D b t h r/\Q r
structure WF (D:Dp X) (f:Nat) (args:List AV) (h:Hp X) (Q:AV->Hp X->Prop):Prop where
 out:∃v h',D f args h= .ret v h'/\Q v h'
structure WP (D:Dp X) (f:Nat) (args:List AV) (h:Hp X) (Q:AV->Hp X->Prop):Prop where
 out:∃v h',D f args h= .panic v h'/\Q v h'
theorem WF.mono {f:Nat} {args:List AV} {h:Hp X} {Q Q':AV->Hp X->Prop} (a:WF D f args h Q) (k:∀v h',Q v h'->Q' v h'):WF D f args h Q':=let ⟨v,h',e,q⟩:=a.out;⟨⟨v,h',e,k _ _ q⟩⟩
theorem WB.mono {b:BC} {t:List AV} {h:Hp X} {Q Q':R X->Prop} (a:WB D b t h Q) (k:∀r,Q r->Q' r):WB D b t h Q':=let ⟨r,g,q⟩:=a.out;⟨⟨r,g,k _ q⟩⟩
section
variable {l:List St1} {e:En} {t:List AV} {h:Hp X} {Q:R X->Prop}
theorem aJ {h':Hp X} (he:h=h') (H:WR D l e t h' Q):WR D l e t h Q:=by rw [he];exact H
theorem BR (q:Q (.norm t h)):WR D [] e t h Q:=⟨⟨_,rfl,(fun e=>by cases e),q⟩⟩
theorem NQ {n:Int} (h: -9223372036854775808<=n/\n < 9223372036854775808):wr .i64 n=n:=by
 obtain ⟨h1,h2⟩:=h
 rcases (show n < 0\/0<=n by omega) with hn|hn
 ·have e:n % 2^64=n+2^64:=by omega
  simp only [wr,IntKind.wrap,IntKind.signed,IntKind.bits,e]
  simp
  omega
 ·have e:n % 2^64=n:=by omega
  simp only [wr,IntKind.wrap,IntKind.signed,IntKind.bits,e]
  simp
  omega
theorem BG (H:WR D l e t h Q):WR D l e t h Q:=H
theorem BK {j:Od×Bool} {d:Ds} {o:Op1} (H:WR D (.mk (some j) d o::l) e t h Q):WR D (.mk (some j) d o::l) e t h Q:=H
theorem BI {d:Ds} {x:Od} (H:WR D (.mk none d (.mov (.mv x))::l) e t h Q):WR D (.mk none d (.mov (.mv x))::l) e t h Q:=H
theorem BH {d:Ds} {m:Mv} (H:WR D (.mk none d (.mov m)::l) e t h Q):WR D (.mk none d (.mov m)::l) e t h Q:=H
theorem BJ {d:Ds} {op:BinOp} {q:Eq} {x y:Od} (H:WR D (.mk none d (.mov (.bin op q x y))::l) e t h Q):WR D (.mk none d (.mov (.bin op q x y))::l) e t h Q:=H
theorem BL {d:Ds} {m:Ef} (H:WR D (.mk none d (.eff m)::l) e t h Q):WR D (.mk none d (.eff m)::l) e t h Q:=H
theorem QR {k:Nat} {m:Ef} {v:AV} {h':Hp X} (hm:m.ev e t h=some (v,h')) (H:WR D l ((k,v)::e) t h' Q):WR D (.mk none (.env k) (.eff m)::l) e t h Q:=by
 obtain ⟨r,h1,h2,h3⟩:=H.out
 refine ⟨⟨r, ?_,h2,h3⟩⟩
 simp only [runRg,gdv,gdR,Op1.run,hm,stepR]
 exact h1
theorem vN {k:Nat} {m:Ef} {v:AV} {h':Hp X} {t':List AV} (hm:m.ev e t h=some (v,h')) (ht:setS t k v=t') (H:WR D l e t' h' Q):WR D (.mk none (.slot k) (.eff m)::l) e t h Q:=by
 obtain ⟨r,h1,h2,h3⟩:=H.out
 subst ht
 refine ⟨⟨r, ?_,h2,h3⟩⟩
 simp only [runRg,gdv,gdR,Op1.run,hm,stepR]
 exact h1
theorem aA {k z by':Nat} {x y:Od} {v w:AV} {n m:Nat} {cells vs:List AV} (hx:x.ev e t=v) (hy:y.ev e t=w) (ho:OS h z v n cells) (hz:0 < z) (hw:RS h z w m vs) (h1:(n+m)*by'<=140737488355328) (h2:n+m<=maxLen)
  (H:∀v' h',OS h' z v' (n+m) (cells++vs)->Keep (blk v) h h'->(∀g,blk v' g->blk v g\/h.n<=g)->WR D l ((k,v')::e) t h' Q):WR D (.mk none (.env k) (.eff (.append z by' x y))::l) e t h Q:=by
 obtain ⟨v',h',e1,e2,e3,e4⟩:=ho.app hz hw.len h1 h2
 exact QR (by simp only [Ef.ev,hy,hw.elems,hx,e1]) (H v' h' e2 e3 e4)
theorem XU {q:Eq} {x y:Od} {k k':IntKind} {a b:Int} (hx:x.ev e t= .int k a) (hy:y.ev e t= .int k' b) (hb:0<=b):(Mv.bin .shr q x y).ev e t h=some (.int k (a.fdiv (2^(min b.toNat k.bits)))):=by
 simp [Mv.ev,hx,hy,Am.bin,AV.onInt,intOp,isShift,show¬b < 0 by omega]
theorem cO {x:Od} {k:IntKind} {a:Int} (hx:x.ev e t= .int k a) (hb:0<=a/\a < 18446744073709551616):(Mv.conv .u64 x).ev e t h=some (.int .u64 a):=by
 have:wr .u64 a=a:=by
  have e:a % 2^64=a:=by omega
  simp only [wr,IntKind.wrap,IntKind.signed,IntKind.bits,e]
  simp
 simp [Mv.ev,hx,AV.onInt,this]
theorem cZ {x:Od} {k:IntKind} {a:Int} (hx:x.ev e t= .int k a) (hb: -9223372036854775808<=a/\a < 9223372036854775808):(Mv.conv .i64 x).ev e t h=some (.int .i64 a):=by
 simp [Mv.ev,hx,AV.onInt,NQ hb]
theorem aaG {x y:Od} {k k':IntKind} {a b:Int} (hx:x.ev e t= .int k a) (hy:y.ev e t= .int k' b):(Mv.Nk x y).ev e t h=some (.int k (min a b)):=by
 simp only [Mv.ev,hx,hy,AV.onInt]
 by_cases hc:b < a
 ·rw [decide_eq_true hc,Int.min_eq_right (by omega)];rfl
 ·rw [decide_eq_false hc,Int.min_eq_left (by omega)];rfl
theorem XV {x y:Od} {k k':IntKind} {a b:Int} (hx:x.ev e t= .int k a) (hy:y.ev e t= .int k' b):(Mv.FQ x y).ev e t h=some (.int k (max a b)):=by
 simp only [Mv.ev,hx,hy,AV.onInt]
 by_cases hc:b > a
 ·rw [decide_eq_true hc,Int.max_eq_right (by omega)];rfl
 ·rw [decide_eq_false hc,Int.max_eq_left (by omega)];rfl
theorem Eo {x:Od} {k:IntKind} {a:Int} {zero:AV} (hx:x.ev e t= .int k a):(Ef.aF 1 1 [zero] [(0,1,x)]).ev e t h=some (.slice 1 h.n 0 1 (some 1),h.push (.rw [.int k a])):=by
 simp only [Ef.ev,List.map,hx]
 rfl
theorem ak {x:Od} {g o:Nat} (hx:x.ev e t= .ptr g o):(Mv.FP x).ev e t h=some (.ptr g o):=by simp only [Mv.ev,hx]
theorem eG {x:Od} {g o:Nat} {l:List AV} {v:AV} (hx:x.ev e t= .ptr g o) (hg:h.get g=some (.rw l)) (hv:l[o]?=some v):(Mv.ld1 x).ev e t h=some v:=by
 simp only [Mv.ev,hx,AV.onPtr,eF hg]
 rw [sF]
 exact hv
theorem sS {a x:Od} {g o:Nat} {l:List AV} {v:AV} (ha:a.ev e t= .ptr g o) (hx:x.ev e t=v) (hv:cellsOf v=some [v]/\v.one=true) (hg:h.get g=some (.rw l)) (ho:o < l.length):(Ef.store 1 a x).ev e t h=some (.bot,h.put g (.rw (spl o [v] l))):=by
 have h1:allOne [v]=true:=by
  unfold allOne
  cases v<;>first|(cases hv.2;done)|rfl
 simp only [Ef.ev,ha,hx,hv.1,h1,Bool.true_and,hg]
 rw [show Nat.beq [v].length 1=true from rfl]
 simp only [cond_true]
 rw [dK (show o+1<=l.length by omega)]
 rfl
theorem lC {n:Nat} {a x:Od} {g o:Nat} {l vs:List AV} (ha:a.ev e t= .ptr g o) (hx:x.ev e t= .agg vs) (hall:allOne vs=true) (hn:vs.length=n) (hg:h.get g=some (.rw l)) (ho:o+n<=l.length):(Ef.store n a x).ev e t h=some (.bot,h.put g (.rw (spl o vs l))):=by
 simp only [Ef.ev,ha,hx,cellsOf,hall,Bool.true_and,hg]
 rw [hn,Nat.beq_refl]
 simp only [cond_true]
 rw [dK ho]
 rfl
theorem xJ {n:Nat} {x:Od} {g o:Nat} {l:List AV} (hx:x.ev e t= .ptr g o) (hg:h.get g=some (.rw l)) (ho:o+n<=l.length):(Mv.ldn n x).ev e t h=some (.agg ((l.drop o).take n)):=by
 simp only [Mv.ev,hx,AV.onPtr,eF hg]
 unfold takeN
 rw [dK ho]
 rfl
theorem ag {k f:Nat} {xs:List Od} {args:List AV} (ha:(xs.map fun x=>x.ev e t)=args) (H:WF D f args h fun v h'=>WR D l ((k,v)::e) t h' Q):WR D (.mk none (.env k) (.call f xs)::l) e t h Q:=by
 obtain ⟨v,h',hf,⟨r,h1,h2,h3⟩⟩:=H.out
 subst ha
 refine ⟨⟨r, ?_,h2,h3⟩⟩
 simp only [runRg,gdv,gdR,Op1.run,hf,stepR]
 exact h1
theorem nY {k f:Nat} {xs:List Od} {args:List AV} (ha:(xs.map fun x=>x.ev e t)=args) (H:WF D f args h fun v h'=>WR D l e (setS t k v) h' Q):WR D (.mk none (.slot k) (.call f xs)::l) e t h Q:=by
 obtain ⟨v,h',hf,⟨r,h1,h2,h3⟩⟩:=H.out
 subst ha
 refine ⟨⟨r, ?_,h2,h3⟩⟩
 simp only [runRg,gdv,gdR,Op1.run,hf,stepR]
 exact h1
theorem Ci {d:Ds} {f:Nat} {xs:List Od} {args:List AV} (ha:(xs.map fun x=>x.ev e t)=args) (H:WP D f args h fun v h'=>Q (.panic v t h')):WR D (.mk none d (.call f xs)::l) e t h Q:=by
 obtain ⟨v,h',hf,h1⟩:=H.out
 subst ha
 refine ⟨⟨.panic v t h', ?_,(fun e=>by cases e),h1⟩⟩
 simp only [runRg,gdv,gdR,Op1.run,hf,stepR]
theorem Zf {d:Ds} {x:Od} {ty:Nat} {v:AV} (hx:x.ev e t= .iface ty v) (q:Q (.panic (.iface ty v) t h)):WR D (.mk none d (.pan x)::l) e t h Q:=by
 refine ⟨⟨_, ?_,(fun e=>by cases e),q⟩⟩
 simp only [runRg,gdv,gdR,Op1.run,hx,stepR]
theorem BS {j:Od} {want b:Bool} {d:Ds} {o:Op1} (hj:j.ev e t= .bool b) (hb:b=want) (H:WR D (.mk none d o::l) e t h Q):WR D (.mk (some (j,want)) d o::l) e t h Q:=by
 obtain ⟨r,h1,h2,h3⟩:=H.out
 refine ⟨⟨r, ?_,h2,h3⟩⟩
 subst hb
 simp only [runRg,gdv,hj,beq_self_eq_true]
 exact h1
theorem BT {j:Od} {want b:Bool} {k:Nat} {o:Op1} (hj:j.ev e t= .bool b) (hb:(b==want)=false) (H:WR D l ((k, .tup [])::e) t h Q):WR D (.mk (some (j,want)) (.env k) o::l) e t h Q:=by
 obtain ⟨r,h1,h2,h3⟩:=H.out
 refine ⟨⟨r, ?_,h2,h3⟩⟩
 simp only [runRg,gdv,hj,hb,gdR]
 exact h1
theorem BU {j:Od} {want:Bool} {k:Nat} {o:Op1} {u:List AV} (hj:j.ev e t= .tup u) (H:WR D l ((k, .tup [])::e) t h Q):WR D (.mk (some (j,want)) (.env k) o::l) e t h Q:=by
 obtain ⟨r,h1,h2,h3⟩:=H.out
 refine ⟨⟨r, ?_,h2,h3⟩⟩
 simp only [runRg,gdv,hj,gdR]
 exact h1
end
structure WD (D:Dp X) (l:Dr) (past:List (Pa X)) (e:En) (t:List AV) (h:Hp X) (Q:R X->Prop):Prop where
 out:∃t' h',drGo D l past e t h= .norm t' h'/\Q (.norm t' h')
section
variable {l:Dr} {past:List (Pa X)} {e:En} {t:List AV} {h:Hp X} {Q:R X->Prop}
theorem BX (H:WD D l past e t h Q):WD D l past e t h Q:=H
theorem BZ {g:Option (Od×Bool)} {d:Ds} {op:BinOp} {q:Eq} {x y:Od} {c:List Nat} (H:WD D ((.mk g d (.mov (.bin op q x y)),c)::l) past e t h Q):WD D ((.mk g d (.mov (.bin op q x y)),c)::l) past e t h Q:=H
theorem CD (q:Q (.norm t h)):WD D [] past e t h Q:=⟨⟨_,_,rfl,q⟩⟩
theorem QS {k:Nat} {m:Mv} {v:AV} (hm:m.ev e t h=some v) (H:WD D l (past++[.mov m e t v]) ((k,v)::e) t h Q):WD D ((.mk none (.env k) (.mov m),[])::l) past e t h Q:=by
 obtain ⟨t',h',h1,h2⟩:=H.out
 refine ⟨⟨t',h', ?_,h2⟩⟩
 simp only [drGo,gdv,St1.g,St1.o,St1.d,Op1.run,hm,paOf,chkAll,cond_true]
 exact h1
theorem NR {k f:Nat} {xs:List Od} {chk:List Nat} {args:List AV} (ha:(xs.map fun x=>x.ev e t)=args) (H:WF D f args h fun v h'=>chkAll h' past chk=true/\WD D l (past++[.skip]) ((k,v)::e) t h' Q):WD D ((.mk none (.env k) (.call f xs),chk)::l) past e t h Q:=by
 obtain ⟨v,h1',hf,hc,⟨t',h',h1,h2⟩⟩:=H.out
 subst ha
 refine ⟨⟨t',h', ?_,h2⟩⟩
 simp only [drGo,gdv,St1.g,St1.o,St1.d,Op1.run,hf,paOf,hc,cond_true]
 exact h1
end
section
variable {a b:BC} {t:List AV} {h:Hp X} {Q:R X->Prop}
theorem AD {l:List St1} (H:WR D l [] t h Q):WB D (.reg l) t h Q:=let ⟨r,h1,h2,h3⟩:=H.out;⟨⟨r,QM h2 h1,h3⟩⟩
theorem AE {l:Dr} (H:WD D l [] [] t h Q):WB D (.iC l) t h Q:=by
 obtain ⟨t',h',h1,h2⟩:=H.out
 exact ⟨⟨_,Ce (r:= .norm t' h') (fun e=>by cases e) (by unfold drR;rw [h1];rfl),h2⟩⟩
theorem AI (q:Q (.norm t h)):WB D .skip t h Q:=⟨⟨_,NP,q⟩⟩
theorem AJ (q:Q (.ret t h)):WB D .ret t h Q:=⟨⟨_,QL,q⟩⟩
theorem AK {k:Nat} (q:Q (.brk k t h)):WB D (.exit k) t h Q:=⟨⟨_,goes_exit,q⟩⟩
structure mV (D:Dp X) (b:BC) (Q:R X->Prop) (r:R X):Prop where
 out:match r with| .norm t h=>WB D b t h Q|r=>Q r
theorem AA (H:WB D b t h Q):mV D b Q (.norm t h):=⟨H⟩
theorem AL (q:Q (.ret t h)):mV D b Q (.ret t h):=⟨q⟩
theorem AM {k:Nat} (q:Q (.brk k t h)):mV D b Q (.brk k t h):=⟨q⟩
theorem AW {v:AV} (q:Q (.panic v t h)):mV D b Q (.panic v t h):=⟨q⟩
theorem AC (H:WB D a t h (mV D b Q)):WB D (.seq a b) t h Q:=by
 obtain ⟨r,h1,h2⟩:=H.out
 cases r with
 |norm t' h'=>obtain ⟨r2,h3,h4⟩:=(show WB D b t' h' Q from h2.out).out;exact ⟨⟨r2,QN h1 h3,h4⟩⟩
 |bad=>exact absurd rfl h1.1
 |_=>exact ⟨⟨_,Az (by exact True.intro) h1,h2.out⟩⟩
theorem AF {x:Od} {c:Bool} (hx:x.ev [] t= .bool c) (hc:c=true) (H:WB D a t h Q):WB D (.cond x a b) t h Q:=let ⟨r,h1,h2⟩:=H.out;⟨⟨r,goes_true (by rw [hx,hc]) h1,h2⟩⟩
theorem AG {x:Od} {c:Bool} (hx:x.ev [] t= .bool c) (hc:c=false) (H:WB D b t h Q):WB D (.cond x a b) t h Q:=let ⟨r,h1,h2⟩:=H.out;⟨⟨r,Jr (by rw [hx,hc]) h1,h2⟩⟩
structure NS (id:Nat) (Q:R X->Prop) (r:R X):Prop where
 out:match r with| .brk k t h=>if k=id then Q (.norm t h) else Q (.brk k t h)|r=>Q r
theorem AN {id:Nat} (q:Q (.norm t h)):NS id Q (.norm t h):=⟨q⟩
theorem AO {id:Nat} (q:Q (.ret t h)):NS id Q (.ret t h):=⟨q⟩
theorem AX {id:Nat} {v:AV} (q:Q (.panic v t h)):NS id Q (.panic v t h):=⟨q⟩
theorem AP {id:Nat} (q:Q (.norm t h)):NS id Q (.brk id t h):=⟨by simp only [if_true];exact q⟩
theorem AH {id:Nat} (H:WB D a t h (NS id Q)):WB D (.block id a) t h Q:=by
 obtain ⟨r,h1,h2⟩:=H.out
 cases r with
 |brk k t' h'=>
  have h2:=h2.out
  simp only at h2
  by_cases hk:k=id
  ·rw [if_pos hk] at h2
   refine ⟨⟨_,lT h1 ?_, ?_⟩⟩
   ·simp [gK,hk]
   ·simpa [gK,hk] using h2
  ·rw [if_neg hk] at h2
   refine ⟨⟨_,lT h1 ?_, ?_⟩⟩
   ·simp [gK,tY hk]
   ·simpa [gK,tY hk] using h2
 |bad=>exact absurd rfl h1.1
 |norm=>exact ⟨⟨_,lT h1 (by simp [gK]),h2.out⟩⟩
 |ret=>exact ⟨⟨_,lT h1 (by simp [gK]),h2.out⟩⟩
 |panic=>exact ⟨⟨_,lT h1 (by simp [gK]),h2.out⟩⟩
structure xk (I:Nat->List AV->Hp X->Prop) (n:Nat) (Q:R X->Prop) (r:R X):Prop where
 out:match r with| .norm t' h'=>∃n',n' < n/\I n' t' h'|r=>Q r
theorem aj {I:Nat->List AV->Hp X->Prop} {n:Nat} (n':Nat) (hn:n' < n) (q:I n' t h):xk I n Q (.norm t h):=⟨⟨n',hn,q⟩⟩
theorem AR {I:Nat->List AV->Hp X->Prop} {n:Nat} (q:Q (.ret t h)):xk I n Q (.ret t h):=⟨q⟩
theorem AS {I:Nat->List AV->Hp X->Prop} {n k:Nat} (q:Q (.brk k t h)):xk I n Q (.brk k t h):=⟨q⟩
theorem AY {I:Nat->List AV->Hp X->Prop} {n:Nat} {v:AV} (q:Q (.panic v t h)):xk I n Q (.panic v t h):=⟨q⟩
theorem aQ (I:Nat->List AV->Hp X->Prop) (H:∀n t h,I n t h->WB D a t h (xk I n Q)):∀n t h,I n t h->WB D (.loop a) t h Q:=by
 intro n
 induction n using Nat.strongRecOn with
 |_ n ih=>
  intro t h hi
  obtain ⟨r,h1,h2⟩:=(H n t h hi).out
  cases r with
  |norm t' h'=>
   obtain ⟨n',h3,h4⟩:=h2.out
   obtain ⟨r2,h5,h6⟩:=(ih n' h3 t' h' h4).out
   exact ⟨⟨r2,Cf h1 h5,h6⟩⟩
  |bad=>exact absurd rfl h1.1
  |_=>exact ⟨⟨_,qY (by exact True.intro) h1,h2.out⟩⟩
end
structure V3 (rs:List Rs) (Q:AV->Hp X->Prop) (r:R X):Prop where
 out:match r with
 | .norm t h=>∃l,resV t h rs=some l/\Q (packA l) h
 | .ret t h=>∃l,resV t h rs=some l/\Q (packA l) h
 |_=>False
theorem AT {rs:List Rs} {Q:AV->Hp X->Prop} {t:List AV} {h:Hp X} {l:List AV} (hl:resV t h rs=some l) (q:Q (packA l) h):V3 rs Q (.ret t h):=⟨⟨l,hl,q⟩⟩
theorem AU {rs:List Rs} {Q:AV->Hp X->Prop} {t:List AV} {h:Hp X} {l:List AV} (hl:resV t h rs=some l) (q:Q (packA l) h):V3 rs Q (.norm t h):=⟨⟨l,hl,q⟩⟩
structure aaH (Q:AV->Hp X->Prop) (r:R X):Prop where
 out:match r with| .panic v _ h'=>Q v h'|_=>False
theorem AZ {Q:AV->Hp X->Prop} {v:AV} {t:List AV} {h:Hp X} (q:Q v h):aaH Q (.panic v t h):=⟨q⟩
theorem aC {E:Nat->Option (Ent X)} (hE:∀f e,E f=some e->e.plain) {f:Nat} {b:BF} (hf:E f=some (.bc b)) {args:List AV} {h:Hp X} {Q:AV->Hp X->Prop} (hl:Nat.ble args.length b.nt=true) (H:WB (lim E) b.body (b.keep.map fun d=>getS args d) h (V3 b.res Q)):WF (lim E) f args h Q:=by
 obtain ⟨r,h1,h2⟩:=H.out
 cases r with
 |norm t' h'=>
  obtain ⟨l,h3,h4⟩:=h2.out
  exact ⟨⟨_,_,(xh hE hf hl h1 (by simp [finR,h3])).trans (by simp [finR,h3]),h4⟩⟩
 |ret t' h'=>
  obtain ⟨l,h3,h4⟩:=h2.out
  exact ⟨⟨_,_,(xh hE hf hl h1 (by simp [finR,h3])).trans (by simp [finR,h3]),h4⟩⟩
 |_=>exact h2.out.elim
theorem XW {E:Nat->Option (Ent X)} (hE:∀f e,E f=some e->e.plain) {f:Nat} {b:BF} (hf:E f=some (.bc b)) {args:List AV} {h:Hp X} {Q:AV->Hp X->Prop} (hl:Nat.ble args.length b.nt=true)
  (H:WB (lim E) b.body (b.keep.map fun d=>getS args d) h (aaH Q)):WP (lim E) f args h Q:=by
 obtain ⟨r,h1,h2⟩:=H.out
 cases r with
 |panic v t' h'=>exact ⟨⟨_,_,xh hE hf hl h1 (by simp [finR]),h2.out⟩⟩
 |_=>exact h2.out.elim
theorem bH {h:Hp X} {z n:Nat} {l:List AV} {cap:Option Nat} (hl:l.length=n*z):RS (h.push (.rw l)) z (.slice z h.n 0 n cap) n l:=
 ⟨rfl,rfl,Nat.lt_succ_self _,l,eF (Hp.aK _ _),by omega,by rw [List.drop_zero,<-hl,List.take_length]⟩
theorem RS.ah {h:Hp X} {z n:Nat} {v:AV} {cells:List AV} (a:RS h z v n cells) {e:En} {t:List AV} {x:Od} (hx:x.ev e t=v):(Mv.ah x).ev e t h=some (.int .i64 n):=by
 simp only [Mv.ev,hx]
 cases v<;>first|exact a.elim|skip
 ·obtain ⟨_,rfl,_⟩:=a;rfl
 ·obtain ⟨rfl,_⟩:=a;rfl
 ·obtain ⟨rfl,_⟩:=a;rfl
theorem yC {l:List AV} {i:Nat}:getN l i=l[i]?:=sF l i
theorem RS.at1 {h:Hp X} {n:Nat} {v:AV} {cells:List AV} (a:RS h 1 v n cells) {i:Int} (h0:0<=i) (hi:i < n):∃g o,(∀{e:En} {t:List AV} {x y:Od} {k:IntKind},x.ev e t=v->y.ev e t= .int k i->(Mv.aP 1 x y).ev e t h=some (.ptr g o))/\
  ∀{e:En} {t:List AV} {x:Od},x.ev e t= .ptr g o->(Mv.ld1 x).ev e t h=cells[i.toNat]?:=by
 obtain ⟨j,rfl⟩:=Int.eq_ofNat_of_zero_le h0
 have hj:j < n:=by omega
 cases v<;>first|exact a.elim|skip
 ·rename_i z g o m cap
  obtain ⟨rfl,rfl,hg,l,hl,hle,rfl⟩:=a
  refine ⟨g,o+j*1,fun {e t x y k} hx hy=> ?_,fun {e t x} hx=> ?_⟩
  ·simp only [Mv.ev,hx,hy,nOf]
   rw [show Nat.blt j m=true by rw [Nat.blt_eq];exact hj]
   rfl
  ·simp only [Mv.ev,hx,AV.onPtr,hl]
   rw [yC]
   simp only [Int.toNat_natCast,Int.ofNat_eq_natCast]
   rw [List.getElem?_take_of_lt (by omega),List.getElem?_drop,Nat.mul_one]
 ·obtain ⟨rfl,_⟩:=a;omega
 ·obtain ⟨rfl,_⟩:=a;omega
theorem yD {n g o:Nat} {x:Od} {t:List AV} {h:Hp X} {l:List AV} (hx:x.ev [] t= .ptr g o) (hg:h.get g=some (.rw l)) (ho:o+n<=l.length):resV t h [.fG n x]=some [.agg ((l.drop o).take n)]:=by
 unfold resV
 rw [show (Rs.fG n x).ev t h=some (.agg ((l.drop o).take n)) from xJ hx hg ho]
 rfl
structure WC (D:Dp X) (f:Nat) (args:List AV) (h:Hp X) (Q P:AV->Hp X->Prop):Prop where
 out:(∃v h',D f args h= .ret v h'/\Q v h')\/∃v h',D f args h= .panic v h'/\P v h'
theorem WC.XX {f:Nat} {args:List AV} {h:Hp X} {Q P:AV->Hp X->Prop} (a:WF D f args h Q):WC D f args h Q P:=⟨.inl a.out⟩
theorem WC.of_wp {f:Nat} {args:List AV} {h:Hp X} {Q P:AV->Hp X->Prop} (a:WP D f args h P):WC D f args h Q P:=⟨.inr a.out⟩
theorem WC.mono {f:Nat} {args:List AV} {h:Hp X} {Q P Q' P':AV->Hp X->Prop} (a:WC D f args h Q P) (q:∀v h',Q v h'->Q' v h') (p:∀v h',P v h'->P' v h'):WC D f args h Q' P':=by
 rcases a.out with ⟨v,h',e,k⟩|⟨v,h',e,k⟩
 ·exact ⟨.inl ⟨v,h',e,q _ _ k⟩⟩
 ·exact ⟨.inr ⟨v,h',e,p _ _ k⟩⟩
theorem jF {l:List St1} {e:En} {t:List AV} {h:Hp X} {Q:R X->Prop} {k f:Nat} {xs:List Od} {args:List AV} (ha:(xs.map fun x=>x.ev e t)=args) (H:WC D f args h (fun v h'=>WR D l ((k,v)::e) t h' Q) (fun v h'=>Q (.panic v t h'))):WR D (.mk none (.env k) (.call f xs)::l) e t h Q:=by
 rcases H.out with ⟨v,h',e1,q⟩|⟨v,h',e1,q⟩
 ·exact ag ha ⟨⟨v,h',e1,q⟩⟩
 ·exact Ci ha ⟨⟨v,h',e1,q⟩⟩
structure Zg (rs:List Rs) (Q P:AV->Hp X->Prop) (r:R X):Prop where
 out:match r with
 | .norm t h=>∃l,resV t h rs=some l/\Q (packA l) h
 | .ret t h=>∃l,resV t h rs=some l/\Q (packA l) h
 | .panic v _ h=>P v h
 |_=>False
theorem BA {rs:List Rs} {Q P:AV->Hp X->Prop} {t:List AV} {h:Hp X} {l:List AV} (hl:resV t h rs=some l) (q:Q (packA l) h):Zg rs Q P (.ret t h):=⟨⟨l,hl,q⟩⟩
theorem BE {rs:List Rs} {Q P:AV->Hp X->Prop} {t:List AV} {h:Hp X} {v:AV} (q:P v h):Zg rs Q P (.panic v t h):=⟨q⟩
theorem aaI {E:Nat->Option (Ent X)} (hE:∀f e,E f=some e->e.plain) {f:Nat} {b:BF} (hf:E f=some (.bc b)) {args:List AV} {h:Hp X} {Q P:AV->Hp X->Prop} (hl:Nat.ble args.length b.nt=true) (H:WB (lim E) b.body (b.keep.map fun d=>getS args d) h (Zg b.res Q P)):WC (lim E) f args h Q P:=by
 obtain ⟨r,h1,h2⟩:=H.out
 cases r with
 |norm t' h'=>
  obtain ⟨l,h3,h4⟩:=h2.out
  exact ⟨.inl ⟨_,_,(xh hE hf hl h1 (by simp [finR,h3])).trans (by simp [finR,h3]),h4⟩⟩
 |ret t' h'=>
  obtain ⟨l,h3,h4⟩:=h2.out
  exact ⟨.inl ⟨_,_,(xh hE hf hl h1 (by simp [finR,h3])).trans (by simp [finR,h3]),h4⟩⟩
 |panic v t' h'=>exact ⟨.inr ⟨_,_,xh hE hf hl h1 (by simp [finR]),h2.out⟩⟩
 |_=>exact h2.out.elim
end
abbrev mvE (k:Nat) (m:Mv):St1:= .mk none (.env k) (.mov m)
abbrev mvS (k:Nat) (m:Mv):St1:= .mk none (.slot k) (.mov m)
abbrev clE (k f:Nat) (l:List Od):St1:= .mk none (.env k) (.call f l)
abbrev efE (k:Nat) (m:Ef):St1:= .mk none (.env k) (.eff m)
abbrev ceS (k j:Nat):St1:= .mk none (.env k) (.mov (.mv (.slot j)))
abbrev ceE (k j:Nat):St1:= .mk none (.env k) (.mov (.mv (.env j)))
abbrev csE (k j:Nat):St1:= .mk none (.slot k) (.mov (.mv (.env j)))
abbrev faE (k i j:Nat):St1:= .mk none (.env k) (.mov (.aG i (.env j)))
abbrev nlE (k j:Nat):St1:= .mk none (.env k) (.mov (.FP (.env j)))
abbrev ldE (k j:Nat):St1:= .mk none (.env k) (.mov (.ld1 (.env j)))
abbrev lnE (k j:Nat):St1:= .mk none (.env k) (.mov (.ah (.env j)))
abbrev exE (k i j:Nat):St1:= .mk none (.env k) (.mov (.ext i (.env j)))
abbrev eV (k:Nat):Od:= .env k
abbrev sL (k:Nat):Od:= .slot k
abbrev kI (k:Nat):Od:= .const (.int .i64 k)
section
variable {X:Type} {D:Dp X} {l:List St1} {e e':En} {t t':List AV} {h h':Hp X} {Q:R X->Prop}
theorem BV {d:Ds} {m:Mv} {v:AV} (hm:m.ev e t h=some v) (H:WR D l e' t' h Q) (he:putE d v e=e':=by conv=>lhs;whnf) (ht:putT d v t=t':=by conv=>lhs;whnf):WR D (.mk none d (.mov m)::l) e t h Q:=by
 subst he ht
 obtain ⟨r,h1,h2,h3⟩:=H.out
 refine ⟨⟨r, ?_,h2,h3⟩⟩
 simp only [runRg,gdv,gdR,Op1.run,hm,stepR]
 exact h1
theorem BW {d:Ds} {m:Ef} {v:AV} (hm:m.ev e t h=some (v,h')) (H:WR D l e' t' h' Q) (he:putE d v e=e':=by conv=>lhs;whnf) (ht:putT d v t=t':=by conv=>lhs;whnf):WR D (.mk none d (.eff m)::l) e t h Q:=by
 subst he ht
 obtain ⟨r,h1,h2,h3⟩:=H.out
 refine ⟨⟨r, ?_,h2,h3⟩⟩
 simp only [runRg,gdv,gdR,Op1.run,hm,stepR]
 exact h1
theorem BM {d:Ds} {x:Od} {v:AV} (H:WR D l e' t' h Q) (hx:x.ev e t=v:=by conv=>lhs;whnf) (he:putE d v e=e':=by conv=>lhs;whnf) (ht:putT d v t=t':=by conv=>lhs;whnf):WR D (.mk none d (.mov (.mv x))::l) e t h Q:=
 BV (by rw [Mv.ev,hx]) H he ht
def cmpB (op:BinOp) (a b:Int):Option Bool:=match op with| .lss=>some (decide (a < b))| .leq=>some (decide (a<=b))| .gtr=>some (decide (b < a))| .geq=>some (decide (b<=a))| .eql=>some (decide (a=b))| .neq=>some (decide (a≠b))|_=>none
def ariB (op:BinOp) (a b:Int):Option Int:=match op with| .add=>some (a+b)| .sub=>some (a - b)| .mul=>some (a*b)|_=>none
theorem Ll {op:BinOp} {q:Eq} {x y:Od} {k:IntKind} {a b:Int} {c:Bool} (hx:x.ev e t= .int k a) (hy:y.ev e t= .int k b) (hc:cmpB op a b=some c):(Mv.bin op q x y).ev e t h=some (.bool c):=by
 cases op<;>first|(cases hc;done)|skip
 all_goals
  simp only [cmpB,Option.some.injEq] at hc
  subst hc
  simp [Mv.ev,hx,hy,Am.bin,AV.onInt,intOp,isShift]
 ·by_cases h:a=b<;>simp [h]
 ·by_cases h:a=b<;>simp [h,bne]
theorem rf {op:BinOp} {q:Eq} {x y:Od} {a b r:Int} (hx:x.ev e t= .int .i64 a) (hy:y.ev e t= .int .i64 b) (hr:ariB op a b=some r) (hc: -9223372036854775808<=r/\r < 9223372036854775808):(Mv.bin op q x y).ev e t h=some (.int .i64 r):=by
 cases op<;>first|(cases hr;done)|skip
 all_goals
  simp only [ariB,Option.some.injEq] at hr
  subst hr
  simp [Mv.ev,hx,hy,Am.bin,AV.onInt,intOp,isShift,NQ hc]
theorem BN {d:Ds} {op:BinOp} {q:Eq} {x y:Od} {k:IntKind} {a b:Int} {c:Bool} (H:WR D l e' t' h Q) (hx:x.ev e t= .int k a:=by exact rfl) (hy:y.ev e t= .int k b:=by exact rfl)
  (hc:cmpB op a b=some c:=by first|exact congrArg some (decide_eq_true (by first|assumption|omega))|exact congrArg some (decide_eq_false (by first|assumption|omega)))
  (he:putE d (.bool c) e=e':=by conv=>lhs;whnf) (ht:putT d (.bool c) t=t':=by conv=>lhs;whnf):WR D (.mk none d (.mov (.bin op q x y))::l) e t h Q:=BV (Ll hx hy hc) H he ht
theorem BO {d:Ds} {op:BinOp} {q:Eq} {x y:Od} {a b r:Int} (H:WR D l e' t' h Q) (hx:x.ev e t= .int .i64 a:=by exact rfl) (hy:y.ev e t= .int .i64 b:=by exact rfl) (hr:ariB op a b=some r:=by exact rfl)
  (hc: -9223372036854775808<=r/\r < 9223372036854775808:=by first|assumption|omega)
  (he:putE d (.int .i64 r) e=e':=by conv=>lhs;whnf) (ht:putT d (.int .i64 r) t=t':=by conv=>lhs;whnf):WR D (.mk none d (.mov (.bin op q x y))::l) e t h Q:=BV (rf hx hy hr hc) H he ht
theorem BP {d:Ds} {m:Mv} {v:AV} (H:WR D l e' t' h Q) (hm:m.ev e t h=some v:=by conv=>lhs;whnf;arg 1;whnf) (he:putE d v e=e':=by conv=>lhs;whnf) (ht:putT d v t=t':=by conv=>lhs;whnf):WR D (.mk none d (.mov m)::l) e t h Q:=BV hm H he ht
theorem BQ {d:Ds} {m:Ef} {v:AV} (H:WR D l e' t' h' Q) (hm:m.ev e t h=some (v,h'):=by exact rfl) (he:putE d v e=e':=by conv=>lhs;whnf) (ht:putT d v t=t':=by conv=>lhs;whnf):WR D (.mk none d (.eff m)::l) e t h Q:=BW hm H he ht
end
section
variable {X:Type} {D:Dp X} {l:Dr} {past:List (Pa X)} {e e':En} {t t':List AV} {h:Hp X} {Q:R X->Prop}
theorem CB {d:Ds} {m:Mv} {v:AV} (hm:m.ev e t h=some v) (H:WD D l (past++[.mov m e t v]) e' t' h Q) (he:putE d v e=e':=by conv=>lhs;whnf) (ht:putT d v t=t':=by conv=>lhs;whnf):WD D ((.mk none d (.mov m),[])::l) past e t h Q:=by
 subst he ht
 obtain ⟨t',h',h1,h2⟩:=H.out
 refine ⟨⟨t',h', ?_,h2⟩⟩
 simp only [drGo,gdv,St1.g,St1.o,St1.d,Op1.run,hm,paOf,chkAll,cond_true]
 exact h1
theorem CA {d:Ds} {op:BinOp} {q:Eq} {x y:Od} {k:IntKind} {a b:Int} {c:Bool} (H:WD D l (past++[.mov (.bin op q x y) e t (.bool c)]) e' t' h Q) (hx:x.ev e t= .int k a:=by exact rfl) (hy:y.ev e t= .int k b:=by exact rfl)
  (hc:cmpB op a b=some c:=by first|exact congrArg some (decide_eq_true (by first|assumption|omega))|exact congrArg some (decide_eq_false (by first|assumption|omega)))
  (he:putE d (.bool c) e=e':=by conv=>lhs;whnf) (ht:putT d (.bool c) t=t':=by conv=>lhs;whnf):WD D ((.mk none d (.mov (.bin op q x y)),[])::l) past e t h Q:=CB (Ll hx hy hc) H he ht
theorem CC {d:Ds} {m:Mv} {v:AV} (H:WD D l (past++[.mov m e t v]) e' t' h Q) (hm:m.ev e t h=some v:=by conv=>lhs;whnf;arg 1;whnf) (he:putE d v e=e':=by conv=>lhs;whnf) (ht:putT d v t=t':=by conv=>lhs;whnf):WD D ((.mk none d (.mov m),[])::l) past e t h Q:=CB hm H he ht
theorem BY {g:Od×Bool} {d:Ds} {o:Op1} {chk:List Nat} (hg:gdv (some g) e t=some true) (H:WD D ((.mk none d o,chk)::l) past e t h Q):WD D ((.mk (some g) d o,chk)::l) past e t h Q:=by
 obtain ⟨t',h',h1,h2⟩:=H.out
 refine ⟨⟨t',h', ?_,h2⟩⟩
 simp only [drGo,St1.g,St1.o,St1.d,hg] at h1 ⊢
 exact h1
end
/- Walks: as many steps as find their own ways. -/
structure Rest (Q:Prop):Prop where
 out:Q
theorem ZA {P Q:Prop} (q:Q) (h:Rest Q->P:=by (intro q;(first|(refine BG ?_;first|(refine BH ?_;first|(refine BI ?_;refine BM ?_)|(refine BJ ?_;first|refine BN ?_|refine BO ?_))|(refine BK ?_;first|refine BS rfl rfl ?_|refine BT rfl rfl ?_|refine BU rfl ?_)|(refine BR ?_;try simp only [setS]))|refine AA ?_|refine AC ?_|refine AD ?_|refine AE ?_|refine AF rfl rfl ?_|refine AG rfl rfl ?_|refine AH ?_|refine AI ?_|refine AJ ?_|refine AK ?_|refine AL ?_|refine AM ?_|refine AN ?_|refine AO ?_|refine AP ?_|refine AQ rfl ?_|refine AR ?_|refine AS ?_|refine AT rfl ?_|refine AU rfl ?_);(repeat first|(refine BG ?_;first|(refine BH ?_;first|(refine BI ?_;refine BM ?_)|(refine BJ ?_;first|refine BN ?_|refine BO ?_))|(refine BK ?_;first|refine BS rfl rfl ?_|refine BT rfl rfl ?_|refine BU rfl ?_)|(refine BR ?_;try simp only [setS]))|refine AA ?_|refine AC ?_|refine AD ?_|refine AE ?_|refine AF rfl rfl ?_|refine AG rfl rfl ?_|refine AH ?_|refine AI ?_|refine AJ ?_|refine AK ?_|refine AL ?_|refine AM ?_|refine AN ?_|refine AO ?_|refine AP ?_|refine AQ rfl ?_|refine AR ?_|refine AS ?_|refine AT rfl ?_|refine AU rfl ?_);exact q.out)):P:=h ⟨q⟩
theorem ZB {P Q:Prop} (q:Q) (h:Rest Q->P:=by (intro q;(first|(refine BG ?_;first|(refine BH ?_;first|(refine BI ?_;refine BM ?_)|(refine BJ ?_;first|refine BN ?_|refine BO ?_))|(refine BK ?_;first|refine BS rfl rfl ?_|refine BT rfl rfl ?_|refine BU rfl ?_)|(refine BR ?_;try simp only [setS]))|refine AA ?_|refine AC ?_|refine AD ?_|refine AF rfl rfl ?_|refine AG rfl rfl ?_|refine AH ?_|refine AI ?_|refine AJ ?_|refine AK ?_|refine AL ?_|refine AM ?_|refine AN ?_|refine AO ?_|refine AP ?_|refine AQ rfl ?_|refine AR ?_|refine AS ?_|refine AT rfl ?_|refine AU rfl ?_);(repeat first|(refine BG ?_;first|(refine BH ?_;first|(refine BI ?_;refine BM ?_)|(refine BJ ?_;first|refine BN ?_|refine BO ?_))|(refine BK ?_;first|refine BS rfl rfl ?_|refine BT rfl rfl ?_|refine BU rfl ?_)|(refine BR ?_;try simp only [setS]))|refine AA ?_|refine AC ?_|refine AD ?_|refine AF rfl rfl ?_|refine AG rfl rfl ?_|refine AH ?_|refine AI ?_|refine AJ ?_|refine AK ?_|refine AL ?_|refine AM ?_|refine AN ?_|refine AO ?_|refine AP ?_|refine AQ rfl ?_|refine AR ?_|refine AS ?_|refine AT rfl ?_|refine AU rfl ?_);exact q.out)):P:=h ⟨q⟩
theorem ZC {P Q:Prop} (q:Q) (h:Rest Q->P:=by (intro q;(first|(refine BG ?_;first|(refine BH ?_;first|(refine BI ?_;refine BM ?_)|(refine BJ ?_;first|refine BN ?_|refine BO ?_))|(refine BK ?_;first|refine BS rfl rfl ?_|refine BT rfl rfl ?_|refine BU rfl ?_)|(refine BR ?_;try simp only [setS]))|refine AA ?_|refine AC ?_|refine AD ?_|refine AE ?_|refine AF rfl rfl ?_|refine AG rfl rfl ?_|refine AI ?_|refine AJ ?_|refine AK ?_|refine AL ?_|refine AM ?_|refine AN ?_|refine AO ?_|refine AP ?_|refine AQ rfl ?_|refine AR ?_|refine AS ?_|refine AT rfl ?_|refine AU rfl ?_);(repeat first|(refine BG ?_;first|(refine BH ?_;first|(refine BI ?_;refine BM ?_)|(refine BJ ?_;first|refine BN ?_|refine BO ?_))|(refine BK ?_;first|refine BS rfl rfl ?_|refine BT rfl rfl ?_|refine BU rfl ?_)|(refine BR ?_;try simp only [setS]))|refine AA ?_|refine AC ?_|refine AD ?_|refine AE ?_|refine AF rfl rfl ?_|refine AG rfl rfl ?_|refine AI ?_|refine AJ ?_|refine AK ?_|refine AL ?_|refine AM ?_|refine AN ?_|refine AO ?_|refine AP ?_|refine AQ rfl ?_|refine AR ?_|refine AS ?_|refine AT rfl ?_|refine AU rfl ?_);exact q.out)):P:=h ⟨q⟩
theorem ZE {P Q:Prop} (q:Q) (h:Rest Q->P:=by (intro q;(first|(refine BG ?_;first|(refine BH ?_;first|(refine BI ?_;refine BM ?_)|(refine BJ ?_;first|refine BN ?_|refine BO ?_))|(refine BK ?_;first|refine BS rfl rfl ?_|refine BT rfl rfl ?_|refine BU rfl ?_)|(refine BR ?_;try simp only [setS]))|refine AA ?_|refine AC ?_|refine AD ?_|refine AE ?_|refine AF rfl rfl ?_|refine AG rfl rfl ?_|refine AH ?_|refine AI ?_|refine AJ ?_|refine AK ?_|refine AL ?_|refine AM ?_|refine AN ?_|refine AO ?_|refine AP ?_|refine AQ rfl ?_|refine AR ?_|refine AS ?_|refine AT rfl ?_|refine AU rfl ?_|refine AW ?_|refine AX ?_|refine AY ?_|refine AZ ?_|refine BA rfl ?_|refine BB rfl ?_|refine BE ?_);(repeat first|(refine BG ?_;first|(refine BH ?_;first|(refine BI ?_;refine BM ?_)|(refine BJ ?_;first|refine BN ?_|refine BO ?_))|(refine BK ?_;first|refine BS rfl rfl ?_|refine BT rfl rfl ?_|refine BU rfl ?_)|(refine BR ?_;try simp only [setS]))|refine AA ?_|refine AC ?_|refine AD ?_|refine AE ?_|refine AF rfl rfl ?_|refine AG rfl rfl ?_|refine AH ?_|refine AI ?_|refine AJ ?_|refine AK ?_|refine AL ?_|refine AM ?_|refine AN ?_|refine AO ?_|refine AP ?_|refine AQ rfl ?_|refine AR ?_|refine AS ?_|refine AT rfl ?_|refine AU rfl ?_|refine AW ?_|refine AX ?_|refine AY ?_|refine AZ ?_|refine BA rfl ?_|refine BB rfl ?_|refine BE ?_);exact q.out)):P:=h ⟨q⟩
theorem ZF {P Q:Prop} (q:Q) (h:Rest Q->P:=by (intro q;(first|(refine BG ?_;first|(refine BH ?_;first|(refine BI ?_;refine BM ?_)|(refine BJ ?_;first|refine BN ?_|refine BO ?_))|(refine BK ?_;first|refine BS rfl rfl ?_|refine BT rfl rfl ?_|refine BU rfl ?_)|(refine BR ?_;try simp only [setS]))|refine AA ?_|refine AC ?_|refine AD ?_|refine AF rfl rfl ?_|refine AG rfl rfl ?_|refine AH ?_|refine AI ?_|refine AJ ?_|refine AK ?_|refine AL ?_|refine AM ?_|refine AN ?_|refine AO ?_|refine AP ?_|refine AQ rfl ?_|refine AR ?_|refine AS ?_|refine AT rfl ?_|refine AU rfl ?_|refine AW ?_|refine AX ?_|refine AY ?_|refine AZ ?_|refine BA rfl ?_|refine BB rfl ?_|refine BE ?_);(repeat first|(refine BG ?_;first|(refine BH ?_;first|(refine BI ?_;refine BM ?_)|(refine BJ ?_;first|refine BN ?_|refine BO ?_))|(refine BK ?_;first|refine BS rfl rfl ?_|refine BT rfl rfl ?_|refine BU rfl ?_)|(refine BR ?_;try simp only [setS]))|refine AA ?_|refine AC ?_|refine AD ?_|refine AF rfl rfl ?_|refine AG rfl rfl ?_|refine AH ?_|refine AI ?_|refine AJ ?_|refine AK ?_|refine AL ?_|refine AM ?_|refine AN ?_|refine AO ?_|refine AP ?_|refine AQ rfl ?_|refine AR ?_|refine AS ?_|refine AT rfl ?_|refine AU rfl ?_|refine AW ?_|refine AX ?_|refine AY ?_|refine AZ ?_|refine BA rfl ?_|refine BB rfl ?_|refine BE ?_);exact q.out)):P:=h ⟨q⟩
theorem ZI {P Q:Prop} (q:Q) (h:Rest Q->P:=by (intro q;(first|(refine BG ?_;first|(refine BH ?_;first|(refine BI ?_;refine BM ?_)|(refine BJ ?_;first|refine BN ?_|refine BO ?_))|(refine BK ?_;first|refine BS rfl rfl ?_|refine BT rfl rfl ?_|refine BU rfl ?_)|(refine BR ?_;try simp only [setS]))|(refine BX ?_;first|refine BY rfl ?_|(refine BZ ?_;refine CA ?_)|(refine CD ?_;try simp only [setS]))|refine AA ?_|refine AC ?_|refine AD ?_|refine AE ?_|refine AF rfl rfl ?_|refine AG rfl rfl ?_|refine AH ?_|refine AI ?_|refine AJ ?_|refine AK ?_|refine AL ?_|refine AM ?_|refine AN ?_|refine AO ?_|refine AP ?_|refine AQ rfl ?_|refine AR ?_|refine AS ?_|refine AT rfl ?_|refine AU rfl ?_);(repeat first|(refine BG ?_;first|(refine BH ?_;first|(refine BI ?_;refine BM ?_)|(refine BJ ?_;first|refine BN ?_|refine BO ?_))|(refine BK ?_;first|refine BS rfl rfl ?_|refine BT rfl rfl ?_|refine BU rfl ?_)|(refine BR ?_;try simp only [setS]))|(refine BX ?_;first|refine BY rfl ?_|(refine BZ ?_;refine CA ?_)|(refine CD ?_;try simp only [setS]))|refine AA ?_|refine AC ?_|refine AD ?_|refine AE ?_|refine AF rfl rfl ?_|refine AG rfl rfl ?_|refine AH ?_|refine AI ?_|refine AJ ?_|refine AK ?_|refine AL ?_|refine AM ?_|refine AN ?_|refine AO ?_|refine AP ?_|refine AQ rfl ?_|refine AR ?_|refine AS ?_|refine AT rfl ?_|refine AU rfl ?_);exact q.out)):P:=h ⟨q⟩
theorem ZM {P Q:Prop} (q:Q) (h:Rest Q->P:=by (intro q;(first|(refine BG ?_;first|(refine BH ?_;first|(refine BI ?_;refine BM ?_)|(refine BJ ?_;first|refine BN ?_|refine BO ?_))|(refine BK ?_;first|refine BS rfl rfl ?_|refine BT rfl rfl ?_|refine BU rfl ?_)|(refine BR ?_;try simp only [setS]))|(refine BX ?_;first|refine BY rfl ?_|(refine BZ ?_;refine CA ?_)|(refine CD ?_;try simp only [setS]))|refine AA ?_|refine AC ?_|refine AD ?_|refine AE ?_|refine AF rfl rfl ?_|refine AG rfl rfl ?_|refine AH ?_|refine AI ?_|refine AJ ?_|refine AK ?_|refine AL ?_|refine AM ?_|refine AN ?_|refine AO ?_|refine AP ?_|refine AQ rfl ?_|refine AR ?_|refine AS ?_|refine AT rfl ?_|refine AU rfl ?_|refine AW ?_|refine AX ?_|refine AY ?_|refine AZ ?_|refine BA rfl ?_|refine BB rfl ?_|refine BE ?_);(repeat first|(refine BG ?_;first|(refine BH ?_;first|(refine BI ?_;refine BM ?_)|(refine BJ ?_;first|refine BN ?_|refine BO ?_))|(refine BK ?_;first|refine BS rfl rfl ?_|refine BT rfl rfl ?_|refine BU rfl ?_)|(refine BR ?_;try simp only [setS]))|(refine BX ?_;first|refine BY rfl ?_|(refine BZ ?_;refine CA ?_)|(refine CD ?_;try simp only [setS]))|refine AA ?_|refine AC ?_|refine AD ?_|refine AE ?_|refine AF rfl rfl ?_|refine AG rfl rfl ?_|refine AH ?_|refine AI ?_|refine AJ ?_|refine AK ?_|refine AL ?_|refine AM ?_|refine AN ?_|refine AO ?_|refine AP ?_|refine AQ rfl ?_|refine AR ?_|refine AS ?_|refine AT rfl ?_|refine AU rfl ?_|refine AW ?_|refine AX ?_|refine AY ?_|refine AZ ?_|refine BA rfl ?_|refine BB rfl ?_|refine BE ?_);exact q.out)):P:=h ⟨q⟩
end Am
end Go.Proofs.YtbnkdnlfdofepaaGreat
