/- The plain machine: a program's functions brought into its form, and that what is brought so stands for them. -/
import Derived.Test.YtmfobcejnkakpaaAm12
namespace Go.Proofs.Ytmfobcejnkakpaa
set_option linter.unusedVariables false
set_option linter.unusedSimpArgs false
namespace Am
open Go.RowKit
set_option maxRecDepth 10000
variable {P : Program}

def isAggD (u : TypeDesc) : Bool := match u with | .struct _ => true | .array _ _ => true | _ => false
theorem aggD_false {u : TypeDesc} (h : isAggD u = false) : (∀ x, u ≠ .struct x) ∧ ∀ n e, u ≠ .array n e := ⟨(fun x e => by subst e; cases h), (fun n x e => by subst e; cases h)⟩
theorem aggD_true {t : TypeId} {u : TypeDesc} (hu : P.underlying t = some u) (h : isAggD u = true) : (∃ x, P.underlying t = some (.struct x)) ∨ ∃ n e, P.underlying t = some (.array n e) := by
  cases u <;> first | (cases h; done) | (exact .inl ⟨_, hu⟩) | (exact .inr ⟨_, _, hu⟩)
def isU8 (P : Program) (t : TypeId) : Bool := match P.underlying t with | some (.int .u8) => true | _ => false
theorem isU8_ok {t : TypeId} (h : isU8 P t = true) : P.underlying t = some (.int .u8) := by
  unfold isU8 at h; split at h <;> first | assumption | cases h
def isIface (u : TypeDesc) : Bool := match u with | .interface _ => true | _ => false
/-- an element's: how many cells, how many bytes, its zero -/
def elemOf (P : Program) (t : TypeId) : Option (Nat × Nat × List AV) :=
  match P.info? t with
  | some i => match i.zero with
    | some z => match avOfs z.cells.toList with
      | some l => if z.cells.size = i.size ∧ 0 < i.size then some (i.size, i.bytes, l) else none
      | none => none
    | none => none
  | none => none
theorem elemOf_ok {t : TypeId} {s b : Nat} {l : List AV} (h : elemOf P t = some (s, b, l)) : ∃ i z, P.info? t = some i ∧ i.zero = some z ∧ avOfs z.cells.toList = some l ∧ z.cells.size = i.size ∧ 0 < i.size ∧ i.size = s ∧ i.bytes = b := by
  unfold elemOf at h
  cases hi : P.info? t with
  | none => rw [hi] at h; cases h
  | some i =>
    rw [hi] at h
    simp only at h
    cases hz : i.zero with
    | none => rw [hz] at h; cases h
    | some z =>
      rw [hz] at h
      simp only at h
      cases hl : avOfs z.cells.toList with
      | none => rw [hl] at h; cases h
      | some l' =>
        rw [hl] at h
        simp only at h
        split at h
        · rename_i hc
          cases h
          exact ⟨i, z, rfl, hz, hl, hc.1, hc.2, rfl, rfl⟩
        · cases h

def convOf (P : Program) (keep : List Nat) (s d : TypeId) (x : Operand) : Option Op1 :=
  match odOf keep x, P.underlying s, P.underlying d with
  | some a, some .string, some .string => some (.mov (.sls a none none))
  | some a, some .string, some (.slice el) => if isU8 P el then some (.eff (.s2b a)) else none
  | some a, some (.slice el), some .string => if isU8 P el then some (.mov (.b2s a)) else none
  | some a, some (.slice el), some (.slice _) => if s = d then (if isU8 P el then some (.eff (.mark a)) else none) else none
  | some a, some (.int _), some .string => some (.mov (.i2s a))
  | some a, some _, some (.int k) => some (.mov (.conv k a))
  | _, _, _ => none
def fieldOf (P : Program) (keep : List Nat) (ty : TypeId) (x : Operand) (f : Nat) : Option Op1 :=
  match odOf keep x, P.underlying ty with
  | some a, some (.struct fs) => match fs[f]? with
    | some fd => match P.underlying fd.type, P.info? fd.type with
      | some u, some i => if isAggD u then some (.mov (.fldn fd.offset i.size a)) else some (.mov (.fld1 fd.offset a))
      | _, _ => none
    | none => none
  | _, _ => none
def faddrOf (P : Program) (keep : List Nat) (ty : TypeId) (x : Operand) (f : Nat) : Option Op1 :=
  match odOf keep x, P.underlying ty with
  | some a, some (.struct fs) => match fs[f]? with
    | some fd => match P.info? fd.type with
      | some i => if i.size = 0 then none else some (.mov (.faddr fd.offset a))
      | none => none
    | none => none
  | _, _ => none
def sliceOf (P : Program) (keep : List Nat) (ty : TypeId) (x : Operand) (lo hi mx : Option Operand) : Option Op1 :=
  match odOf keep x, oodOf keep lo, oodOf keep hi, oodOf keep mx, P.underlying ty with
  | some a, some l, some h, some m, some (.slice el) => match P.info? el with
    | some i => some (.mov (.sl i.size a l h m))
    | none => none
  | some a, some l, some h, _, some .string => match mx with | none => some (.mov (.sls a l h)) | some _ => none
  | _, _, _, _, _ => none
def loadOf (P : Program) (keep : List Nat) (ty : TypeId) (x : Operand) : Option Op1 :=
  match odOf keep x, P.underlying ty, P.info? ty with
  | some a, some u, some i => if isAggD u then some (.mov (.ldn i.size a)) else some (.mov (.ld1 a))
  | _, _, _ => none
def buildOf (P : Program) (keep : List Nat) (ty : TypeId) (parts : Array (Nat × Operand)) : Option Op1 :=
  match P.underlying ty, P.info? ty with
  | some (.struct fs), some i => match i.zero with
    | some z => match avOfs z.cells.toList, partsOf (placesOf P fs) keep parts.toList with
      | some l, some ps => if fs.toList.all (fun f => (P.info? f.type).isSome) then some (.mov (.bld l ps)) else none
      | _, _ => none
    | none => none
  | _, _ => none
def bsliceOf (P : Program) (keep : List Nat) (ty : TypeId) (len : Nat) (parts : Array (Nat × Operand)) : Option Op1 :=
  match P.underlying ty with
  | some (.slice el) => match elemOf P el with
    | some (s, _, l) => match partsOf (fun k => some (k * s, s)) keep parts.toList with
      | some ps => if len * s ≤ 16777216 then some (.eff (.bslice s len l ps)) else none
      | none => none
    | none => none
  | _ => none
def biLen (P : Program) (keep : List Nat) (args : List Operand) (tys : List TypeId) : Option Op1 :=
  match args, tys with
  | [x], [ty] => (match odOf keep x, P.underlying ty with
    | some a, some (.slice _) => some (.mov (.lenv a))
    | some a, some .string => some (.mov (.lens a))
    | _, _ => none)
  | _, _ => none
def biCap (P : Program) (keep : List Nat) (args : List Operand) (tys : List TypeId) : Option Op1 :=
  match args, tys with
  | [x], [ty] => (match odOf keep x, P.underlying ty with
    | some a, some (.slice _) => some (.mov (.capv a))
    | _, _ => none)
  | _, _ => none
def biMax (keep : List Nat) (mx : Bool) (args : List Operand) : Option Op1 :=
  match args with
  | [x, y] => (match odOf keep x, odOf keep y with | some a, some b => some (.mov (if mx then .maxv a b else .minv a b)) | _, _ => none)
  | _ => none
def biApp (P : Program) (keep : List Nat) (args : List Operand) (tys : List TypeId) : Option Op1 :=
  match args, tys with
  | [x, y], [ty, tn] => (match odOf keep x, odOf keep y, P.underlying ty with
    | some a, some b, some (.slice el) => (match elemOf P el with
      | some (s, by', l) => if ty = tn then some (.eff (.append s by' a b)) else (match P.underlying tn with
        | some (.int _) => some (.eff (.appz s by' l a b))
        | _ => none)
      | none => none)
    | _, _, _ => none)
  | _, _ => none
def biCopy (P : Program) (keep : List Nat) (args : List Operand) (tys : List TypeId) : Option Op1 :=
  match args, tys with
  | [x, y], [ty, _] => (match odOf keep x, odOf keep y, P.underlying ty with
    | some a, some b, some (.slice el) => (match P.info? el with | some i => some (.eff (.copy i.size a b)) | none => none)
    | _, _, _ => none)
  | _, _ => none
def biClear (P : Program) (keep : List Nat) (args : List Operand) (tys : List TypeId) : Option Op1 :=
  match args, tys with
  | [x], [ty] => (match odOf keep x, P.underlying ty with
    | some a, some (.slice el) => (match elemOf P el with | some (s, _, l) => some (.eff (.clear s l a)) | none => none)
    | _, _ => none)
  | _, _ => none
def biPan (keep : List Nat) (args : List Operand) : Option Op1 :=
  match args with
  | [x] => (match odOf keep x with | some a => some (.pan a) | none => none)
  | _ => none
def biOf (P : Program) (keep : List Nat) (b : Builtin) (args : List Operand) (tys : List TypeId) : Option Op1 :=
  match b with
  | .len => biLen P keep args tys
  | .cap => biCap P keep args tys
  | .max => biMax keep true args
  | .min => biMax keep false args
  | .append => biApp P keep args tys
  | .copy => biCopy P keep args tys
  | .clear => biClear P keep args tys
  | .panic => biPan keep args
  | _ => none
def callOf (P : Program) (keep : List Nat) (c : Call) : Option Op1 :=
  match c.callee with
  | .value (.func f) => match c.args.toList.mapM (odOf keep) with | some xs => some (.call f xs) | none => none
  | .value x => match odOf keep x, c.args.toList.mapM (odOf keep) with | some a, some xs => some (.calv a xs) | _, _ => none
  | .invoke _ _ => none
  | .builtin b => biOf P keep b c.args.toList c.argTypes.toList
def opOf (P : Program) (keep : List Nat) (o : Oper) : Option Op1 :=
  match o.op with
  | .move x => (match odOf keep x with | some a => some (.mov (.mv a)) | none => none)
  | .assign x => (match odOf keep x with | some a => some (.mov (.mv a)) | none => none)
  | .pick c x y => (match odOf keep c, odOf keep x, odOf keep y with | some a, some b, some c => some (.mov (.pick a b c)) | _, _, _ => none)
  | .binOp op ty x y _ => (match odOf keep x, odOf keep y with | some a, some b => some (.mov (.bin op (eqOf P ty) a b)) | _, _ => none)
  | .unOp .not _ x => (match odOf keep x with | some a => some (.mov (.notb a)) | none => none)
  | .unOp .neg _ x => (match odOf keep x with | some a => some (.mov (.neg a)) | none => none)
  | .convert s d x => convOf P keep s d x
  | .nilCheck x => (match odOf keep x with | some a => some (.mov (.nilc a)) | none => none)
  | .field ty x f => fieldOf P keep ty x f
  | .extract x i => (match odOf keep x with | some a => some (.mov (.ext i a)) | none => none)
  | .fieldAddr ty x f => faddrOf P keep ty x f
  | .indexAddr ty x i => (match odOf keep x, odOf keep i, P.underlying ty with
    | some a, some b, some (.slice el) => (match P.info? el with | some j => some (.mov (.iaddr j.size a b)) | none => none)
    | _, _, _ => none)
  | .index ty x i => (match odOf keep x, odOf keep i, P.underlying ty with
    | some a, some b, some .string => some (.mov (.idx a b))
    | _, _, _ => none)
  | .slice ty x lo hi mx => sliceOf P keep ty x lo hi mx
  | .load ty x => loadOf P keep ty x
  | .build ty parts => buildOf P keep ty parts
  | .makeInterface ty x => (match odOf keep x, P.underlying ty with
    | some a, some u => if isIface u then none else some (.mov (.mkif ty a))
    | _, _ => none)
  | .makeFunc (.func f) first cs => if first.toList = [] then (match cs.toList.mapM (odOf keep) with | some xs => some (.mov (.mkfn f xs)) | none => none) else none
  | .alloc ty => (match P.info? ty with
    | some i => (match i.zero with | some z => (match avOfs z.cells.toList with | some l => some (.eff (.alloc l)) | none => none) | none => none)
    | none => none)
  | .box _ x => (match odOf keep x with | some a => some (.eff (.box a)) | none => none)
  | .buildSlice ty len parts => bsliceOf P keep ty len parts
  | .store ty a x => (match odOf keep a, odOf keep x, P.info? ty with | some b, some c, some i => some (.eff (.store i.size b c)) | _, _, _ => none)
  | .makeSlice ty l c => (match odOf keep l, odOf keep c, P.underlying ty with
    | some a, some b, some (.slice el) => (match elemOf P el with | some (s, by', z) => some (.eff (.mkslice s by' z a b)) | none => none)
    | _, _, _ => none)
  | .panic x => (match odOf keep x with | some a => some (.pan a) | none => none)
  | .call c => callOf P keep c
  | _ => none

/-- an operation and its compiled form -/
structure OpX (P : Program) (keep : List Nat) (o : Oper) (p : Op1) : Prop where
  all : Op1OK P keep o p
  mov : ∀ m, p = .mov m → MvOK P keep o m
section
variable {keep : List Nat} {o : Oper}
theorem opx_mov {m : Mv} (h : MvOK P keep o m) : OpX P keep o (.mov m) := ⟨op1_mov h, fun m' e => by cases e; exact @h⟩
theorem opx_eff {f : Ef} (h : EfOK P keep o f) : OpX P keep o (.eff f) := ⟨op1_eff h, fun m' e => by cases e⟩
theorem opx_call {f : FuncId} {xs : Array Operand} {tys : Array TypeId} {xs' : List Od} (ho : o.op = .call { callee := .value (.func f), args := xs, argTypes := tys }) (hx : xs.toList.mapM (odOf keep) = some xs') : OpX P keep o (.call f xs') := ⟨op1_call ho hx, fun m' e => by cases e⟩
theorem opx_calv {fv : Operand} {fv' : Od} {xs : Array Operand} {tys : Array TypeId} {xs' : List Od} (ho : o.op = .call { callee := .value fv, args := xs, argTypes := tys }) (hf' : odOf keep fv = some fv') (hx : xs.toList.mapM (odOf keep) = some xs') : OpX P keep o (.calv fv' xs') := ⟨op1_calv ho hf' hx, fun m' e => by cases e⟩
theorem opx_pan {x : Operand} {x' : Od} (ho : o.op = .panic x ∨ ∃ tys, o.op = .call { callee := .builtin .panic, args := #[x], argTypes := tys }) (hx : odOf keep x = some x') : OpX P keep o (.pan x') := ⟨op1_pan ho hx, fun m' e => by cases e⟩
end
section
variable {keep : List Nat} {o : Oper} {p : Op1}
theorem conv_ok {s d : TypeId} {x : Operand} (ho : o.op = .convert s d x) (h : convOf P keep s d x = some p) : OpX P keep o p := by
  unfold convOf at h
  split at h
  · cases h; exact opx_mov (ok_s2s ho (by assumption) (by assumption) (by assumption))
  · split at h
    · cases h; exact opx_eff (efok_s2b ho (by assumption) (by assumption) (isU8_ok (by assumption)) (by assumption))
    · cases h
  · split at h
    · cases h; exact opx_mov (ok_b2s ho (by assumption) (isU8_ok (by assumption)) (by assumption) (by assumption))
    · cases h
  · rename_i hx hus hud
    split at h
    · rename_i hsd
      split at h
      · rename_i h8
        cases h
        subst hsd
        have q : OpX P keep o (.eff _) := opx_eff (efok_mark ho hus (isU8_ok h8) hx)
        exact @q
      · cases h
    · cases h
  · cases h; exact opx_mov (ok_i2s ho (by assumption) (by assumption) (by assumption))
  · cases h; exact opx_mov (ok_conv ho (by assumption) (by assumption) (by assumption))
  · cases h
theorem field_ok {ty : TypeId} {x : Operand} {f : Nat} (ho : o.op = .field ty x f) (h : fieldOf P keep ty x f = some p) : OpX P keep o p := by
  unfold fieldOf at h
  split at h
  · rename_i hx hu
    split at h
    · rename_i fd hfd
      split at h
      · rename_i hty hi
        split at h
        · rename_i hag
          cases h; exact opx_mov (ok_fldn ho hu hfd (aggD_true hty hag) hi hx)
        · rename_i hag
          cases h; exact opx_mov (ok_fld1 ho hu hfd hty (aggD_false (by simpa using hag)) hx)
      · cases h
    · cases h
  · cases h
theorem faddr_ok {ty : TypeId} {x : Operand} {f : Nat} (ho : o.op = .fieldAddr ty x f) (h : faddrOf P keep ty x f = some p) : OpX P keep o p := by
  unfold faddrOf at h
  split at h
  · split at h
    · split at h
      · split at h
        · cases h
        · cases h; exact opx_mov (ok_faddr ho (by assumption) (by assumption) (by assumption) (by assumption) (by assumption))
      · cases h
    · cases h
  · cases h
theorem slice_ok {ty : TypeId} {x : Operand} {lo hi mx : Option Operand} (ho : o.op = .slice ty x lo hi mx) (h : sliceOf P keep ty x lo hi mx = some p) : OpX P keep o p := by
  unfold sliceOf at h
  split at h
  · split at h
    · cases h; exact opx_mov (ok_sl ho (by assumption) (by assumption) (by assumption) (by assumption) (by assumption) (by assumption))
    · cases h
  · split at h
    · cases h; exact opx_mov (ok_sls ho (by assumption) (by assumption) (by assumption) (by assumption))
    · cases h
  · cases h
theorem load_ok {ty : TypeId} {x : Operand} (ho : o.op = .load ty x) (h : loadOf P keep ty x = some p) : OpX P keep o p := by
  unfold loadOf at h
  split at h
  · rename_i hx hu hi
    split at h
    · rename_i hag
      cases h; exact opx_mov (ok_ldn ho (aggD_true hu hag) hi hx)
    · rename_i hag
      cases h; exact opx_mov (ok_ld1 ho hu (aggD_false (by simpa using hag)) hx)
  · cases h
theorem build_ok {ty : TypeId} {parts : Array (Nat × Operand)} (ho : o.op = .build ty parts) (h : buildOf P keep ty parts = some p) : OpX P keep o p := by
  unfold buildOf at h
  split at h
  · split at h
    · split at h
      · split at h
        · rename_i hall
          cases h
          exact opx_mov (ok_bld ho (by assumption) (by assumption) (by assumption) (by assumption) (fun f hf => List.all_eq_true.1 hall f hf) (by assumption))
        · cases h
      · cases h
    · cases h
  · cases h
theorem bslice_ok {ty : TypeId} {len : Nat} {parts : Array (Nat × Operand)} (ho : o.op = .buildSlice ty len parts) (h : bsliceOf P keep ty len parts = some p) : OpX P keep o p := by
  unfold bsliceOf at h
  split at h
  · rename_i el hu
    split at h
    · rename_i s b l he
      split at h
      · rename_i ps hps
        split at h
        · rename_i hle
          cases h
          obtain ⟨i, z, h1, h2, h3, h4, h5, rfl, rfl⟩ := elemOf_ok he
          exact opx_eff (efok_bslice ho hu h1 h2 h4 h5 hle h3 hps)
        · cases h
      · cases h
    · cases h
  · cases h
theorem toList1 {α : Type} {a : Array α} {x : α} (h : a.toList = [x]) : a = #[x] := by apply Array.ext'; simpa using h
theorem toList2 {α : Type} {a : Array α} {x y : α} (h : a.toList = [x, y]) : a = #[x, y] := by apply Array.ext'; simpa using h
theorem bi_ok {b : Builtin} {args : Array Operand} {tys : Array TypeId} (ho : o.op = .call { callee := .builtin b, args := args, argTypes := tys }) (h : biOf P keep b args.toList tys.toList = some p) : OpX P keep o p := by
  cases b <;> simp only [biOf] at h <;> first | (cases h; done) | skip
  case len =>
    unfold biLen at h
    split at h
    · rename_i hA hT
      have hA := toList1 hA; have hT := toList1 hT; subst hA; subst hT
      split at h
      · cases h; have q : OpX P keep o (.mov _) := opx_mov (ok_len ho (by assumption) (by assumption)); exact @q
      · cases h; have q : OpX P keep o (.mov _) := opx_mov (ok_lens ho (by assumption) (by assumption)); exact @q
      · cases h
    · cases h
  case cap =>
    unfold biCap at h
    split at h
    · rename_i hA hT
      have hA := toList1 hA; have hT := toList1 hT; subst hA; subst hT
      split at h
      · cases h; have q : OpX P keep o (.mov _) := opx_mov (ok_cap ho (by assumption) (by assumption)); exact @q
      · cases h
    · cases h
  case max =>
    unfold biMax at h
    split at h
    · rename_i hA
      have hA := toList2 hA; subst hA
      split at h
      · cases h; have q : OpX P keep o (.mov _) := opx_mov (ok_max ho (by assumption) (by assumption)); exact @q
      · cases h
    · cases h
  case min =>
    unfold biMax at h
    split at h
    · rename_i hA
      have hA := toList2 hA; subst hA
      split at h
      · cases h; have q : OpX P keep o (.mov _) := opx_mov (ok_min ho (by assumption) (by assumption)); exact @q
      · cases h
    · cases h
  case append =>
    unfold biApp at h
    split at h
    · rename_i hA hT
      have hA := toList2 hA; have hT := toList2 hT; subst hA; subst hT
      split at h
      · split at h
        · rename_i he
          obtain ⟨i, z, h1, h2, h3, h4, h5, rfl, rfl⟩ := elemOf_ok he
          split at h
          · rename_i e; subst e; cases h; have q : OpX P keep o (.eff _) := opx_eff (efok_append ho (by assumption) h1 h2 h4 h5 (by assumption) (by assumption)); exact @q
          · split at h
            · cases h; have q : OpX P keep o (.eff _) := opx_eff (efok_appz ho (by assumption) (by assumption) h1 h2 h4 h5 h3 (by assumption) (by assumption)); exact @q
            · cases h
        · cases h
      · cases h
    · cases h
  case copy =>
    unfold biCopy at h
    split at h
    · rename_i hA hT
      have hA := toList2 hA; have hT := toList2 hT; subst hA; subst hT
      split at h
      · split at h
        · cases h; have q : OpX P keep o (.eff _) := opx_eff (efok_copy ho (by assumption) (by assumption) (by assumption) (by assumption)); exact @q
        · cases h
      · cases h
    · cases h
  case clear =>
    unfold biClear at h
    split at h
    · rename_i hA hT
      have hA := toList1 hA; have hT := toList1 hT; subst hA; subst hT
      split at h
      · split at h
        · rename_i he
          obtain ⟨i, z, h1, h2, h3, h4, h5, rfl, rfl⟩ := elemOf_ok he
          cases h
          have q : OpX P keep o (.eff _) := opx_eff (efok_clear ho (by assumption) h1 h2 h4 h3 (by assumption)); exact @q
        · cases h
      · cases h
    · cases h
  case panic =>
    unfold biPan at h
    split at h
    · rename_i hA
      have hA := toList1 hA; subst hA
      split at h
      · cases h; have q : OpX P keep o (.pan _) := opx_pan (.inr ⟨_, ho⟩) (by assumption); exact @q
      · cases h
    · cases h
theorem call_ok {c : Call} (ho : o.op = .call c) (h : callOf P keep c = some p) : OpX P keep o p := by
  obtain ⟨callee, args, tys⟩ := c
  unfold callOf at h
  cases callee with
  | invoke => cases h
  | builtin b => exact bi_ok ho h
  | value f =>
    cases f with
    | func f => simp only at h; split at h; (cases h; exact opx_call ho (by assumption)); cases h
    | tmp f => simp only at h; split at h; (cases h; exact opx_calv ho (by assumption) (by assumption)); cases h
    | const f => simp only at h; split at h; (cases h; exact opx_calv ho (by assumption) (by assumption)); cases h
    | global f => simp only at h; split at h; (cases h; exact opx_calv ho (by assumption) (by assumption)); cases h
theorem opx_ok (h : opOf P keep o = some p) : OpX P keep o p := by
  unfold opOf at h
  split at h
  case h_1 ho => split at h; (cases h; exact opx_mov (ok_mv (.inl ho) (by assumption))); cases h
  case h_2 ho => split at h; (cases h; exact opx_mov (ok_mv (.inr ho) (by assumption))); cases h
  case h_3 ho => split at h; (cases h; exact opx_mov (ok_pick ho (by assumption) (by assumption) (by assumption))); cases h
  case h_4 ho => split at h; (cases h; exact opx_mov (ok_bin ho rfl (by assumption) (by assumption))); cases h
  case h_5 ho => split at h; (cases h; exact opx_mov (ok_not ho (by assumption))); cases h
  case h_6 ho => split at h; (cases h; exact opx_mov (ok_neg ho (by assumption))); cases h
  case h_7 ho => exact conv_ok ho h
  case h_8 ho => split at h; (cases h; exact opx_mov (ok_nilc ho (by assumption))); cases h
  case h_9 ho => exact field_ok ho h
  case h_10 ho => split at h; (cases h; exact opx_mov (ok_ext ho (by assumption))); cases h
  case h_11 ho => exact faddr_ok ho h
  case h_12 ho =>
    split at h
    · split at h
      · cases h; exact opx_mov (ok_iaddr ho (by assumption) (by assumption) (by assumption) (by assumption))
      · cases h
    · cases h
  case h_13 ho => split at h; (cases h; exact opx_mov (ok_idx ho (by assumption) (by assumption) (by assumption))); cases h
  case h_14 ho => exact slice_ok ho h
  case h_15 ho => exact load_ok ho h
  case h_16 ho => exact build_ok ho h
  case h_17 ho =>
    split at h
    · rename_i u hx hu
      by_cases hi : isIface u = true
      · rw [if_pos hi] at h; cases h
      · rw [if_neg hi] at h; cases h; exact opx_mov (ok_mkif ho hu (fun ms e => hi (by subst e; rfl)) hx)
    · cases h
  case h_18 ho =>
    split at h
    · rename_i hfirst
      split at h
      · cases h
        have hfirst := Array.toList_eq_nil_iff.1 hfirst
        subst hfirst
        have q : OpX P keep o (.mov _) := opx_mov (ok_mkfn ho (by assumption))
        exact @q
      · cases h
    · cases h
  case h_19 ho =>
    split at h
    · split at h
      · split at h
        · cases h; exact opx_eff (efok_alloc ho (by assumption) (by assumption) (by assumption))
        · cases h
      · cases h
    · cases h
  case h_20 ho => split at h; (cases h; exact opx_eff (efok_box ho (by assumption))); cases h
  case h_21 ho => exact bslice_ok ho h
  case h_22 ho => split at h; (cases h; exact opx_eff (efok_store ho (by assumption) (by assumption) (by assumption))); cases h
  case h_23 ho =>
    split at h
    · split at h
      · rename_i he
        obtain ⟨i, z, h1, h2, h3, h4, h5, rfl, rfl⟩ := elemOf_ok he
        cases h
        exact opx_eff (efok_mkslice ho (by assumption) h1 h2 h4 h5 h3 (by assumption) (by assumption))
      · cases h
    · cases h
  case h_24 ho => split at h; (cases h; exact opx_pan (.inl ho) (by assumption)); cases h
  case h_25 ho => exact call_ok ho h
  case h_26 => cases h
theorem op_ok (h : opOf P keep o = some p) : Op1OK P keep o p := by
  have q : OpX P keep o p := opx_ok h
  intro O
  exact q.all
theorem mov_of {m : Mv} (h : opOf P keep o = some (.mov m)) : MvOK P keep o m := by
  have q : OpX P keep o (.mov m) := opx_ok h
  have q2 := q.mov
  intro O w0 w mu φ h nt e t a h1 h2 v h3
  exact q2 m rfl h1 h2 h3
end
end Am
end Go.Proofs.Ytmfobcejnkakpaa
