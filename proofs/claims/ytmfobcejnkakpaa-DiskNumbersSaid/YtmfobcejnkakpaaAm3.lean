/- The plain machine: frames, and the operations that leave the heap alone. -/
import Derived.Test.YtmfobcejnkakpaaAm2
namespace Go.Proofs.Ytmfobcejnkakpaa
set_option linter.unusedVariables false
set_option linter.unusedSimpArgs false
namespace Am
open Go.RowKit
set_option maxRecDepth 10000

theorem getS_setS (t : List AV) (i : Nat) (v : AV) : ∀ j, getS (setS t i v) j = if j = i ∧ i < t.length then v else getS t j := by
  induction t generalizing i with
  | nil => intro j; cases i <;> simp [setS, getS]
  | cons x t ih =>
    intro j
    cases i with
    | zero => cases j <;> simp [setS, getS]
    | succ i =>
      cases j with
      | zero => simp [setS, getS]
      | succ j => simp only [setS, getS, ih]; simp
theorem len_setS (t : List AV) (i : Nat) (v : AV) : (setS t i v).length = t.length := by
  induction t generalizing i with
  | nil => cases i <;> rfl
  | cons x t ih => cases i <;> simp [setS, ih]

/-- a frame: the slots that are kept, those that a region has laid -/
structure FR (m : Mu) (keep : List Nat) (nt : Nat) (e : En) (t : List AV) (a : Act) : Prop where
  size : a.tmps.size = nt
  len : t.length = keep.length
  nd : keep.Nodup
  env : ∀ d, d ∉ keep → VR m (lookE d e) (a.tmps.getD d undef)
  slot : ∀ (i d : Nat), keep[i]? = some d → VR m (getS t i) (a.tmps.getD d undef)
theorem FR.ext {m m' : Mu} {keep : List Nat} {nt : Nat} {e : En} {t : List AV} {a : Act} (h : Ext m m') (f : FR m keep nt e t a) : FR m' keep nt e t a :=
  ⟨f.size, f.len, f.nd, fun d hd => (f.env d hd).ext h, fun i d hi => (f.slot i d hi).ext h⟩
theorem FR.void {m : Mu} {keep : List Nat} {nt : Nat} {e : En} {t : List AV} {a : Act} (f : FR m keep nt e t a) : FR m keep nt [] t a :=
  ⟨f.size, f.len, f.nd, fun d hd => by simp [lookE, VR], f.slot⟩

/-- a constant -/
def avOf1 : Value → Option AV
  | .int k n => some (.int k n)
  | .bool b => some (.bool b)
  | .string s => some (.str s.data.toList)
  | .pointer none => some .nilp
  | .slice none 0 0 => some .snil
  | .nilFunc => some .nilf
  | .nilIface => some .inil
  | _ => none
def avOfs : List Value → Option (List AV)
  | [] => some []
  | v :: l => match avOf1 v with | some a => (match avOfs l with | some b => some (a :: b) | none => none) | none => none
def avOf (v : Value) : Option AV :=
  match v with
  | .agg cs => match avOfs cs.toList with | some l => some (.agg l) | none => none
  | v => avOf1 v
theorem avOf1_ok {v : Value} {a : AV} (m : Mu) (h : avOf1 v = some a) : VR m a v ∧ a.one = true := by
  unfold avOf1 at h
  split at h <;> cases h <;> simp [VR, AV.one]
theorem avOfs_ok (m : Mu) : ∀ {l : List Value} {r : List AV}, avOfs l = some r → VRs m r l ∧ ∀ a ∈ r, a.one = true
  | [], r, h => by cases h; simp [VRs]
  | v :: l, r, h => by
    unfold avOfs at h
    cases h1 : avOf1 v with
    | none => rw [h1] at h; cases h
    | some a =>
      rw [h1] at h
      cases h2 : avOfs l with
      | none => rw [h2] at h; cases h
      | some b =>
        rw [h2] at h
        cases h
        obtain ⟨i1, i2⟩ := avOfs_ok m h2
        obtain ⟨j1, j2⟩ := avOf1_ok m h1
        refine ⟨by simp only [VRs]; exact ⟨v, l, rfl, j1, i1⟩, fun x hx => ?_⟩
        rcases List.mem_cons.1 hx with rfl | hx
        · exact j2
        · exact i2 x hx
theorem avOf_ok {v : Value} {a : AV} (m : Mu) (h : avOf v = some a) : VR m a v := by
  unfold avOf at h
  split at h
  · rename_i cs
    split at h
    · rename_i l hl
      cases h
      simp only [VR]
      exact ⟨cs.toList, by simp, (avOfs_ok m hl).1⟩
    · cases h
  · exact (avOf1_ok m h).1

def odOf (keep : List Nat) (x : Operand) : Option Od :=
  match x with
  | .tmp n => some (match keep.idxOf? n with | some i => .slot i | none => .env n)
  | .const v => match avOf v with | some a => some (.const a) | none => none
  | .func f => some (.const (.func f []))
  | .global _ => none
def dsOf (keep : List Nat) (d : Option Nat) : Ds :=
  match d with
  | none => .none
  | some n => match keep.idxOf? n with | some i => .slot i | none => .env n

section
variable {m : Mu} {keep : List Nat} {nt : Nat} {e : En} {t : List AV} {a : Act}
theorem idx_some {n i : Nat} (h : keep.idxOf? n = some i) : keep[i]? = some n := by
  rw [List.idxOf?, List.findIdx?_eq_some_iff_getElem] at h
  obtain ⟨h1, h2, _⟩ := h
  rw [List.getElem?_eq_getElem h1]
  simpa using h2
theorem idx_none {n : Nat} (h : keep.idxOf? n = none) : n ∉ keep := by
  rw [List.idxOf?, List.findIdx?_eq_none_iff] at h
  intro hn
  have := h n hn
  simp at this
theorem FR.od (f : FR m keep nt e t a) {x : Operand} {o : Od} (h : odOf keep x = some o) : VR m (o.ev e t) (a.eval x) := by
  unfold odOf at h
  cases x with
  | tmp n =>
    simp only at h
    cases h
    cases hi : keep.idxOf? n with
    | some i => exact f.slot i n (idx_some hi)
    | none => exact f.env n (idx_none hi)
  | const v =>
    simp only at h
    cases hv : avOf v with
    | none => rw [hv] at h; cases h
    | some b => rw [hv] at h; cases h; exact avOf_ok m hv
  | func f => cases h; simp [Od.ev, VR, VRs, Act.eval]
  | global g => cases h
/-- a value laid into its place -/
def putE (d : Ds) (v : AV) (e : En) : En := match d with | .env k => (k, v) :: e | _ => e
def putT (d : Ds) (v : AV) (t : List AV) : List AV := match d with | .slot i => setS t i v | _ => t
theorem FR.put (f : FR m keep nt e t a) {d : Option Nat} (hd : ∀ n, d = some n → n < nt) {v : AV} {v' : Value} (hv : VR m v v') :
    FR m keep nt (putE (dsOf keep d) v e) (putT (dsOf keep d) v t) (a.put d v') := by
  cases d with
  | none => exact f
  | some n =>
    have hn := hd n rfl
    have hget : ∀ k, (a.tmps.setIfInBounds n v').getD k undef = if k = n then v' else a.tmps.getD k undef := fun k => by
      rw [Array.getD_eq_getD_getElem?, Array.getD_eq_getD_getElem?, Array.getElem?_setIfInBounds]
      by_cases e : n = k
      · subst e
        have hlt : n < a.tmps.size := by rw [f.size]; exact hn
        simp [hlt]
      · rw [if_neg e, if_neg (Ne.symm e)]
    cases hi : keep.idxOf? n with
    | some i =>
      have hk := idx_some hi
      rw [show dsOf keep (some n) = .slot i by simp only [dsOf, hi]]
      have hmem : n ∈ keep := List.mem_of_getElem? hk
      refine ⟨by show (a.tmps.setIfInBounds n v').size = nt; rw [Array.size_setIfInBounds]; exact f.size, by show (setS t i v).length = _; rw [len_setS]; exact f.len, f.nd, fun k hkk => ?_, fun j k hjk => ?_⟩
      · show VR m (lookE k e) ((a.tmps.setIfInBounds n v').getD k undef)
        rw [hget, if_neg (fun e => hkk (by rw [e]; exact hmem))]
        exact f.env k hkk
      · show VR m (getS (setS t i v) j) ((a.tmps.setIfInBounds n v').getD k undef)
        rw [hget, getS_setS]
        have hilt : i < t.length := by rw [f.len]; exact (List.getElem?_eq_some_iff.1 hk).1
        by_cases hji : j = i
        · subst hji
          rw [hk] at hjk; cases hjk
          rw [if_pos ⟨rfl, hilt⟩, if_pos rfl]
          exact hv
        · rw [if_neg (fun h => hji h.1), if_neg]
          · exact f.slot j k hjk
          · intro e
            subst e
            obtain ⟨h1, h2⟩ := List.getElem?_eq_some_iff.1 hk
            obtain ⟨h3, h4⟩ := List.getElem?_eq_some_iff.1 hjk
            rcases Nat.lt_or_gt_of_ne hji with hlt | hlt
            · exact List.pairwise_iff_getElem.1 f.nd j i h3 h1 hlt (h4.trans h2.symm)
            · exact List.pairwise_iff_getElem.1 f.nd i j h1 h3 hlt (h2.trans h4.symm)
    | none =>
      have hno := idx_none hi
      rw [show dsOf keep (some n) = .env n by simp only [dsOf, hi]]
      refine ⟨by show (a.tmps.setIfInBounds n v').size = nt; rw [Array.size_setIfInBounds]; exact f.size, f.len, f.nd, fun k hkk => ?_, fun j k hjk => ?_⟩
      · show VR m (lookE k ((n, v) :: e)) ((a.tmps.setIfInBounds n v').getD k undef)
        rw [hget]
        by_cases hkn : k = n
        · subst hkn
          rw [if_pos rfl]
          simp only [lookE, Nat.beq_refl, cond_true]
          exact hv
        · rw [if_neg hkn]
          simp only [lookE, nbeq (Ne.symm hkn), cond_false]
          exact f.env k hkk
      · show VR m (getS t j) ((a.tmps.setIfInBounds n v').getD k undef)
        rw [hget, if_neg]
        · exact f.slot j k hjk
        · intro e
          subst e
          exact hno (List.mem_of_getElem? hjk)
theorem FR.defers (f : FR m keep nt e t a) (ds : List Deferred) : FR m keep nt e t { a with defers := ds } := ⟨f.size, f.len, f.nd, f.env, f.slot⟩
end

inductive Mv where
  | mv (x : Od)
  | pick (c x y : Od)
  | bin (op : BinOp) (q : Eq) (x y : Od)
  | notb (x : Od)
  | neg (x : Od)
  | conv (k : IntKind) (x : Od)
  | b2s (x : Od)
  | i2s (x : Od)
  | nilc (x : Od)
  | fld1 (off : Nat) (x : Od)
  | fldn (off n : Nat) (x : Od)
  | ext (i : Nat) (x : Od)
  | bld (zero : List AV) (parts : List (Nat × Nat × Od))
  | faddr (off : Nat) (x : Od)
  | iaddr (z : Nat) (x i : Od)
  | idx (x i : Od)
  | sl (z : Nat) (x : Od) (lo hi mx : Option Od)
  | sls (x : Od) (lo hi : Option Od)
  | ld1 (x : Od)
  | ldn (n : Nat) (x : Od)
  | lenv (x : Od)
  | lens (x : Od)
  | capv (x : Od)
  | mkif (t : Nat) (x : Od)
  | mkfn (f : Nat) (cs : List Od)
  | maxv (x y : Od)
  | minv (x y : Od)

/-- the cells of a block -/
noncomputable def rowOf {X : Type} (h : Hp X) (g : Nat) : Option (List AV) :=
  match h.get g with
  | some (.rw l) => some l
  | some (.ro l) => some l
  | _ => none
theorem rowOf_some {X : Type} {h : Hp X} {g : Nat} {l : List AV} (e : rowOf h g = some l) : h.get g = some (.rw l) ∨ h.get g = some (.ro l) := by
  unfold rowOf at e
  split at e
  · cases e; left; assumption
  · cases e; right; assumption
  · cases e
def nOf (v : AV) : Option Nat := match v with | .int _ (.ofNat n) => some n | _ => none
theorem nOf_some {v : AV} {n : Nat} (h : nOf v = some n) : ∃ k, v = .int k n := by
  unfold nOf at h; split at h
  · cases h; exact ⟨_, rfl⟩
  · cases h
/-- surely no more than the cap -/
noncomputable def capB {X : Type} (h : Hp X) (z g off len : Nat) (cap : Option Nat) (n : Nat) : Bool :=
  Nat.ble n len || match cap with
    | some k => Nat.ble n k
    | none => match rowOf h g with | some l => Nat.ble (off + n * z) l.length | none => false
def getN : List AV → Nat → Option AV
  | [], _ => none
  | v :: _, 0 => some v
  | _ :: t, n + 1 => getN t n
theorem getN_eq (l : List AV) : ∀ n, getN l n = l[n]? := by
  induction l with
  | nil => intro n; cases n <;> rfl
  | cons x l ih => intro n; cases n with | zero => rfl | succ n => simpa [getN] using ih n
def takeN (n off : Nat) (l : List AV) : Option (List AV) := bif Nat.ble (off + n) l.length then some ((l.drop off).take n) else none
theorem takeN_some {n off : Nat} {l r : List AV} (h : takeN n off l = some r) : off + n ≤ l.length ∧ r = (l.drop off).take n := by
  unfold takeN at h
  cases hb : Nat.ble (off + n) l.length with
  | false => rw [hb] at h; cases h
  | true => rw [hb] at h; cases h; exact ⟨Nat.le_of_ble_eq_true hb, rfl⟩
def cellsOf (v : AV) : Option (List AV) := match v with | .agg l => some l | .tup _ => none | .bot => none | v => some [v]
def bytesOf : List AV → Option (List UInt8)
  | [] => some []
  | v :: l => match v with | .int .u8 n => (match bytesOf l with | some r => some (UInt8.ofNat n.toNat :: r) | none => none) | _ => none
/-- parts laid into a row -/
def fillA (cells : List AV) : List (Nat × Nat × AV) → Option (List AV)
  | [] => some cells
  | (off, size, v) :: r => match cellsOf v with
    | some l => bif Nat.beq l.length size && Nat.ble (off + size) cells.length then fillA (cells.take off ++ l ++ cells.drop (off + size)) r else none
    | none => none
def slB {X : Type} (z : Nat) (x : AV) (lo hi mx : Option AV) (ub : Nat → Nat → Nat → Option Nat → Nat → Bool) : Option AV :=
  match x with
  | .slice z' g off len cap =>
    bif !Nat.beq z' z then none else
    match (match mx with | none => some none | some v => match nOf v with | some n => bif ub g off len cap n then some (some n) else none | none => none : Option (Option Nat)) with
    | none => none
    | some m =>
      match (match hi with | none => (match m with | none => some len | some _ => none) | some v => match nOf v with | some n => bif (match m with | none => ub g off len cap n | some k => Nat.ble n k) then some n else none | none => none : Option Nat) with
      | none => none
      | some hh =>
        match (match lo with | none => some 0 | some v => match nOf v with | some n => bif Nat.ble n hh then some n else none | none => none : Option Nat) with
        | none => none
        | some l => some (.slice z g (off + l * z) (hh - l) (match m with | none => (match cap with | none => none | some k => some (k - l)) | some k => some (k - l)))
  | .snil =>
    bif (match lo with | none => true | some v => (match nOf v with | some 0 => true | _ => false)) && (match hi with | none => (match mx with | none => true | some _ => false) | some v => (match nOf v with | some 0 => true | _ => false)) && (match mx with | none => true | some v => (match nOf v with | some 0 => true | _ => false)) then some .snil else none
  | _ => none
def slS (s : List UInt8) (lo hi : Option AV) : Option AV :=
  match (match hi with | none => some s.length | some v => match nOf v with | some n => bif Nat.ble n s.length then some n else none | none => none : Option Nat) with
  | none => none
  | some hh => match (match lo with | none => some 0 | some v => match nOf v with | some n => bif Nat.ble n hh then some n else none | none => none : Option Nat) with
    | none => none
    | some l => some (.str ((s.take hh).drop l))

def oev (x : Option Od) (e : En) (t : List AV) : Option AV := match x with | none => none | some o => some (o.ev e t)
noncomputable def Mv.ev {X : Type} (o : Mv) (e : En) (t : List AV) (h : Hp X) : Option AV :=
  match o with
  | .mv x => some (x.ev e t)
  | .pick c x y => (c.ev e t).onBool fun b => some (bif b then x.ev e t else y.ev e t)
  | .bin op q x y => Am.bin op q (x.ev e t) (y.ev e t)
  | .notb x => (x.ev e t).onBool fun b => some (.bool (!b))
  | .neg x => (x.ev e t).onInt fun k n => some (.int k (wr k (0 - n)))
  | .conv k x => (x.ev e t).onInt fun _ n => some (.int k (wr k n))
  | .b2s x => match x.ev e t with
    | .snil => some (.str [])
    | .semp => some (.str [])
    | .slice _ g off len _ => match rowOf h g with
      | some l => (match takeN len off l with | some r => (match bytesOf r with | some s => some (.str s) | none => none) | none => none)
      | none => none
    | _ => none
  | .i2s x => (x.ev e t).onInt fun _ n => some (.str (Utf8.encode n).data.toList)
  | .nilc x => match x.ev e t with | .ptr g o => some (.ptr g o) | .func f cs => some (.func f cs) | _ => none
  | .fld1 off x => (x.ev e t).onAgg fun l => getN l off
  | .fldn off n x => (x.ev e t).onAgg fun l => match takeN n off l with | some r => some (.agg r) | none => none
  | .ext i x => (x.ev e t).onTup fun l => getN l i
  | .bld zero parts => match fillA zero (parts.map fun p => (p.1, p.2.1, p.2.2.ev e t)) with | some l => some (.agg l) | none => none
  | .faddr off x => (x.ev e t).onPtr fun g o => some (.ptr g (o + off))
  | .iaddr z x i => match x.ev e t with
    | .slice _ g off len _ => (match nOf (i.ev e t) with | some n => bif Nat.blt n len then some (.ptr g (off + n * z)) else none | none => none)
    | _ => none
  | .idx x i => (x.ev e t).onStr fun s => match nOf (i.ev e t) with | some n => (match s[n]? with | some b => some (.int .u8 b.toNat) | none => none) | none => none
  | .sl z x lo hi mx => slB z (x.ev e t) (oev lo e t) (oev hi e t) (oev mx e t) (capB h z) (X := X)
  | .sls x lo hi => (x.ev e t).onStr fun s => slS s (oev lo e t) (oev hi e t)
  | .ld1 x => (x.ev e t).onPtr fun g o => match rowOf h g with | some l => getN l o | none => none
  | .ldn n x => (x.ev e t).onPtr fun g o => match rowOf h g with | some l => (match takeN n o l with | some r => some (.agg r) | none => none) | none => none
  | .lenv x => match x.ev e t with | .slice _ _ _ len _ => some (.int .i64 len) | .snil => some (.int .i64 0) | .semp => some (.int .i64 0) | _ => none
  | .lens x => (x.ev e t).onStr fun s => some (.int .i64 s.length)
  | .capv x => match x.ev e t with | .slice _ _ _ _ (some k) => some (.int .i64 k) | .snil => some (.int .i64 0) | _ => none
  | .mkif ty x => some (.iface ty (x.ev e t))
  | .mkfn f cs => some (.func f (cs.map fun c => c.ev e t))
  | .maxv x y => (x.ev e t).onInt fun k a => (y.ev e t).onInt fun _ b => some (.int k (bif decide (b > a) then b else a))
  | .minv x y => (x.ev e t).onInt fun k a => (y.ev e t).onInt fun _ b => some (.int k (bif decide (b < a) then b else a))

end Am
end Go.Proofs.Ytmfobcejnkakpaa
