/- The plain machine's operations that leave the heap alone: what they give. -/
import Derived.Test.YtmfobcejnkakpaaAm1
namespace Go.Proofs.Ytmfobcejnkakpaa
set_option linter.unusedVariables false
set_option linter.unusedSimpArgs false
namespace Am
open Go.RowKit

abbrev En := List (Nat × AV)
def lookE (d : Nat) : En → AV
  | [] => .bot
  | (k, v) :: e => bif Nat.beq k d then v else lookE d e
def getS : List AV → Nat → AV
  | [], _ => .bot
  | v :: _, 0 => v
  | _ :: t, n + 1 => getS t n
def setS : List AV → Nat → AV → List AV
  | [], _, _ => []
  | _ :: t, 0, v => v :: t
  | x :: t, n + 1, v => x :: setS t n v

inductive Od where
  | slot (i : Nat)
  | env (d : Nat)
  | const (v : AV)
  deriving Inhabited
def Od.ev (x : Od) (e : En) (t : List AV) : AV :=
  match x with
  | .slot i => getS t i
  | .env d => lookE d e
  | .const v => v
inductive Ds where
  | none
  | slot (i : Nat)
  | env (d : Nat)
  deriving Inhabited

def AV.onInt {α : Type} (v : AV) (f : IntKind → Int → Option α) : Option α := match v with | .int k n => f k n | _ => none
def AV.onBool {α : Type} (v : AV) (f : Bool → Option α) : Option α := match v with | .bool b => f b | _ => none
def AV.onStr {α : Type} (v : AV) (f : List UInt8 → Option α) : Option α := match v with | .str s => f s | _ => none
def AV.onPtr {α : Type} (v : AV) (f : Nat → Nat → Option α) : Option α := match v with | .ptr g o => f g o | _ => none
def AV.onAgg {α : Type} (v : AV) (f : List AV → Option α) : Option α := match v with | .agg l => f l | _ => none
def AV.onTup {α : Type} (v : AV) (f : List AV → Option α) : Option α := match v with | .tup l => f l | _ => none

theorem AV.onInt_some {α : Type} {v : AV} {f : IntKind → Int → Option α} {r : α} (h : v.onInt f = some r) : ∃ k n, v = .int k n ∧ f k n = some r := by
  cases v <;> simp only [AV.onInt] at h <;> first | exact ⟨_, _, rfl, h⟩ | cases h
theorem AV.onBool_some {α : Type} {v : AV} {f : Bool → Option α} {r : α} (h : v.onBool f = some r) : ∃ b, v = .bool b ∧ f b = some r := by
  cases v <;> simp only [AV.onBool] at h <;> first | exact ⟨_, rfl, h⟩ | cases h
theorem AV.onStr_some {α : Type} {v : AV} {f : List UInt8 → Option α} {r : α} (h : v.onStr f = some r) : ∃ b, v = .str b ∧ f b = some r := by
  cases v <;> simp only [AV.onStr] at h <;> first | exact ⟨_, rfl, h⟩ | cases h
theorem AV.onPtr_some {α : Type} {v : AV} {f : Nat → Nat → Option α} {r : α} (h : v.onPtr f = some r) : ∃ g o, v = .ptr g o ∧ f g o = some r := by
  cases v <;> simp only [AV.onPtr] at h <;> first | exact ⟨_, _, rfl, h⟩ | cases h
theorem AV.onAgg_some {α : Type} {v : AV} {f : List AV → Option α} {r : α} (h : v.onAgg f = some r) : ∃ b, v = .agg b ∧ f b = some r := by
  cases v <;> simp only [AV.onAgg] at h <;> first | exact ⟨_, rfl, h⟩ | cases h
theorem AV.onTup_some {α : Type} {v : AV} {f : List AV → Option α} {r : α} (h : v.onTup f = some r) : ∃ b, v = .tup b ∧ f b = some r := by
  cases v <;> simp only [AV.onTup] at h <;> first | exact ⟨_, rfl, h⟩ | cases h

/-- a number brought into its kind -/
def wr (k : IntKind) (n : Int) : Int := k.wrap n
def eqv (op : BinOp) (b : Bool) : Option AV := match op with | .eql => some (.bool b) | .neq => some (.bool (!b)) | _ => none
def intOp (op : BinOp) (k : IntKind) (a b : Int) : Option AV :=
  match op with
  | .add => some (.int k (wr k (a + b)))
  | .sub => some (.int k (wr k (a - b)))
  | .mul => some (.int k (wr k (a * b)))
  | .quo => if b = 0 then none else some (.int k (wr k (a.tdiv b)))
  | .rem => if b = 0 then none else some (.int k (a.tmod b))
  | .and => some (.int k (wr k ((BitVec.ofInt k.bits a &&& BitVec.ofInt k.bits b).toNat)))
  | .or => some (.int k (wr k ((BitVec.ofInt k.bits a ||| BitVec.ofInt k.bits b).toNat)))
  | .xor => some (.int k (wr k ((BitVec.ofInt k.bits a ^^^ BitVec.ofInt k.bits b).toNat)))
  | .andNot => some (.int k (wr k ((BitVec.ofInt k.bits a &&& ~~~ BitVec.ofInt k.bits b).toNat)))
  | .shl => if b < 0 then none else some (.int k (wr k (a * 2 ^ (min b.toNat k.bits))))
  | .shr => if b < 0 then none else some (.int k (a.fdiv (2 ^ (min b.toNat k.bits))))
  | .eql => some (.bool (a == b))
  | .neq => some (.bool (a != b))
  | .lss => some (.bool (decide (a < b)))
  | .leq => some (.bool (decide (a ≤ b)))
  | .gtr => some (.bool (decide (b < a)))
  | .geq => some (.bool (decide (b ≤ a)))
def strOp (op : BinOp) (a b : List UInt8) : Option AV :=
  match op with
  | .add => if a.length + b.length ≤ 8388608 then some (.str (a ++ b)) else none
  | .eql => some (.bool (a == b))
  | .neq => some (.bool (!(a == b)))
  | .lss => some (.bool (Op.bytesLess a b))
  | .leq => some (.bool (Op.bytesLess a b || a == b))
  | .gtr => some (.bool (!(Op.bytesLess a b || a == b)))
  | .geq => some (.bool (!Op.bytesLess a b))
  | _ => none
/-- what kind of type '==' is asked at -/
inductive Eq where
  | no | bool | ptr | slice | func
  deriving DecidableEq
def isShift (op : BinOp) : Bool := match op with | .shl | .shr => true | _ => false
def bin (op : BinOp) (q : Eq) (x y : AV) : Option AV :=
  match x with
  | .int k a => y.onInt fun k' b => bif isShift op || decide (k = k') then intOp op k a b else none
  | .str a => y.onStr fun b => strOp op a b
  | .bool a => if q = .bool then y.onBool fun b => eqv op (a == b) else none
  | .nilp => if q = .ptr then (match y with | .nilp => eqv op true | .ptr _ _ => eqv op false | _ => none) else none
  | .ptr g o => if q = .ptr then (match y with | .nilp => eqv op false | .ptr g' o' => if g = g' then eqv op (decide (o = o')) else none | _ => none) else none
  | .snil => if q = .slice then (match y with | .snil => eqv op true | .slice .. => eqv op false | _ => none) else none
  | .slice .. => if q = .slice then (match y with | .snil => eqv op false | _ => none) else none
  | .nilf => if q = .func then (match y with | .nilf => eqv op true | .func .. => eqv op false | _ => none) else none
  | .func .. => if q = .func then (match y with | .nilf => eqv op false | _ => none) else none
  | _ => none
def eqOf (P : Program) (t : TypeId) : Eq :=
  match P.underlying t with
  | some .bool => .bool
  | some (.pointer e) => match P.info? e with | some i => if i.size = 0 then .no else .ptr | none => .no
  | some (.slice _) => .slice
  | some (.func ..) => .func
  | _ => .no

variable {P : Program}
theorem wrap_eq (k : IntKind) (n : Int) : wr k n = k.wrap n := rfl

theorem bin_int {op : BinOp} {k k' : IntKind} {a b : Int} {v : AV} {m : Mu} {t : TypeId} {w : World} (hk : isShift op = true ∨ k = k') (h : intOp op k a b = some v) :
    ∃ v', VR m v v' ∧ (binOp op t (.int k a) (.int k' b)).run P w = .ok v' w := by
  by_cases hs : isShift op = true
  · cases op <;> first | (simp [isShift] at hs; done) | skip
    all_goals
      simp only [intOp] at h
      split at h
      · cases h
      · rename_i h0
        cases h
        refine ⟨_, rfl, ?_⟩
        simp [binOp, Op.shift, wr, h0]
  · have e : k = k' := by rcases hk with h1 | h1; exact absurd h1 hs; exact h1
    subst e
    have red : ∀ (op' : BinOp), isShift op' = false → ∀ r, (match op' with
        | .add | .sub | .mul => Op.intArith op' k a b
        | .quo | .rem => Op.intDiv op' k a b
        | .and | .or | .xor | .andNot => Op.intBits op' k a b
        | _ => Op.intCmp op' a b).run P w = r → (binOp op' t (.int k a) (.int k b)).run P w = r := by
      intro op' h1 r h2
      cases op' <;> first | (cases h1; done) | (simp only [binOp, ne_eq, not_true_eq_false, if_false]; exact h2)
    cases op <;> first | (exact absurd rfl hs) | skip
    all_goals
      simp only [intOp] at h
      first
        | (cases h; refine ⟨_, rfl, red _ rfl _ ?_⟩; rfl)
        | (split at h
           · cases h
           · rename_i h0
             cases h
             refine ⟨_, rfl, red _ rfl _ ?_⟩
             simp [Op.intDiv, wr, h0])
theorem arr_list (a : List UInt8) : (⟨a.toArray⟩ : ByteArray).toList = a := ByteArray.toList_mk a
theorem bin_str {op : BinOp} {a b : List UInt8} {v : AV} {m : Mu} {t : TypeId} {w : World} (h : strOp op a b = some v) :
    ∃ v', VR m v v' ∧ (binOp op t (.string ⟨a.toArray⟩) (.string ⟨b.toArray⟩)).run P w = .ok v' w := by
  have key : ∀ r, strOp op a b = some r → ∃ v', VR m r v' ∧ (Op.stringOp op ⟨a.toArray⟩ ⟨b.toArray⟩).run P w = .ok v' w := by
    intro r hr
    cases op <;> simp only [strOp] at hr <;> first
      | (cases hr; done)
      | (cases hr; refine ⟨_, rfl, ?_⟩; simp [Op.stringOp, arr_list]; done)
      | skip
    split at hr
    · rename_i hl
      cases hr
      refine ⟨_, rfl, ?_⟩
      rw [run_string_add_lists w a b (by omega) (by omega)]
    · cases hr
  obtain ⟨v', h1, h2⟩ := key v h
  refine ⟨v', h1, ?_⟩
  cases op <;> first | exact h2 | (simp only [strOp] at h; cases h)

theorem eqv_some {op : BinOp} {b : Bool} {v : AV} (h : eqv op b = some v) : (op = .eql ∧ v = .bool b) ∨ (op = .neq ∧ v = .bool (!b)) := by
  cases op <;> simp only [eqv] at h <;> first | (cases h; done) | (cases h; exact .inl ⟨rfl, rfl⟩) | (cases h; exact .inr ⟨rfl, rfl⟩)
/-- '==' | '!=' at values that are neither numbers nor texts -/
theorem bin_eq {op : BinOp} {b : Bool} {v : AV} {m : Mu} {t : TypeId} {w : World} {x y : Value} (h : eqv op b = some v) (hx : ∀ op', op' = .eql ∨ op' = .neq → binOp op' t x y = (match op' with | .eql => do pure (.bool (← Op.equal t x y)) | _ => do pure (.bool (!(← Op.equal t x y))) : Sem Value))
    (he : (Op.equal t x y).run P w = .ok b w) : ∃ v', VR m v v' ∧ (binOp op t x y).run P w = .ok v' w := by
  rcases eqv_some h with ⟨rfl, rfl⟩ | ⟨rfl, rfl⟩
  · refine ⟨_, rfl, ?_⟩
    rw [hx _ (.inl rfl)]
    simp [he]
  · refine ⟨_, rfl, ?_⟩
    rw [hx _ (.inr rfl)]
    simp [he]
theorem equal_bool {t : TypeId} {w : World} {a b : Bool} (h : P.underlying t = some .bool) : (Op.equal t (.bool a) (.bool b)).run P w = .ok (a == b) w := by
  show (Op.equalIn (9999 + 1) _ _ _).run P w = _
  generalize 9999 = dep
  simp [Op.equalIn, run_underlying h]
theorem equal_ptr {t e : TypeId} {w : World} {a b : Option Addr} {i : TypeInfo} (h : P.underlying t = some (.pointer e)) (hi : P.info? e = some i) (hs : i.size ≠ 0) (r : Bool)
    (hr : (a = none ∧ r = b.isNone) ∨ (a ≠ none ∧ b = none ∧ r = false) ∨ (∃ x y, a = some x ∧ b = some y ∧ x.block = y.block ∧ r = (x == y))) : (Op.equal t (.pointer a) (.pointer b)).run P w = .ok r w := by
  show (Op.equalIn (9999 + 1) _ _ _).run P w = _
  generalize 9999 = dep
  rcases hr with ⟨rfl, rfl⟩ | ⟨ha, rfl, rfl⟩ | ⟨x, y, rfl, rfl, hb, rfl⟩
  · simp [Op.equalIn, run_underlying h]
  · cases a with
    | none => exact absurd rfl ha
    | some x => simp [Op.equalIn, run_underlying h]
  · simp [Op.equalIn, run_underlying h, sizeOf, typeInfo, hi, hs, sameAddr, hb]
theorem equal_slice {t e : TypeId} {w : World} {a b : Option Addr} {l l' c c' : Nat} (h : P.underlying t = some (.slice e)) (r : Bool) (hr : (a = none ∧ r = b.isNone) ∨ (a ≠ none ∧ b = none ∧ r = false)) :
    (Op.equal t (.slice a l c) (.slice b l' c')).run P w = .ok r w := by
  show (Op.equalIn (9999 + 1) _ _ _).run P w = _
  generalize 9999 = dep
  rcases hr with ⟨rfl, rfl⟩ | ⟨ha, rfl, rfl⟩
  · simp [Op.equalIn, run_underlying h]
  · cases a with
    | none => exact absurd rfl ha
    | some x => simp [Op.equalIn, run_underlying h]
theorem equal_func {t : TypeId} {p1 p2 : Array TypeId} {p3 : Bool} {w : World} {x y : Value} (h : P.underlying t = some (.func p1 p2 p3)) (r : Bool)
    (hr : (x = .nilFunc ∧ y = .nilFunc ∧ r = true) ∨ (x = .nilFunc ∧ (∃ a b c, y = .func a b c) ∧ r = false) ∨ ((∃ a b c, x = .func a b c) ∧ y = .nilFunc ∧ r = false)) : (Op.equal t x y).run P w = .ok r w := by
  show (Op.equalIn (9999 + 1) _ _ _).run P w = _
  generalize 9999 = dep
  rcases hr with ⟨rfl, rfl, rfl⟩ | ⟨rfl, ⟨_, _, _, rfl⟩, rfl⟩ | ⟨⟨_, _, _, rfl⟩, rfl, rfl⟩ <;> simp [Op.equalIn, run_underlying h]
theorem bin_ok {op : BinOp} {q : Eq} {x y v : AV} {m : Mu} {t : TypeId} {w : World} {x' y' : Value} (hq : eqOf P t = q) (hx : VR m x x') (hy : VR m y y') (h : bin op q x y = some v) :
    ∃ v', VR m v v' ∧ (binOp op t x' y').run P w = .ok v' w := by
  have hp : q = .ptr → ∃ e i, P.underlying t = some (.pointer e) ∧ P.info? e = some i ∧ i.size ≠ 0 := by
    intro e; subst e
    unfold eqOf at hq
    split at hq <;> first | (cases hq; done) | skip
    rename_i e hu
    split at hq
    · rename_i i hi
      split at hq
      · cases hq
      · exact ⟨e, i, hu, hi, by assumption⟩
    · cases hq
  have hs : q = .slice → ∃ e, P.underlying t = some (.slice e) := by
    intro e; subst e
    unfold eqOf at hq
    split at hq <;> first | (cases hq; done) | (exact ⟨_, by assumption⟩) | skip
    split at hq <;> first | (cases hq; done) | skip
    split at hq <;> cases hq
  have hf : q = .func → ∃ a b c, P.underlying t = some (.func a b c) := by
    intro e; subst e
    unfold eqOf at hq
    split at hq <;> first | (cases hq; done) | (exact ⟨_, _, _, by assumption⟩) | skip
    split at hq <;> first | (cases hq; done) | skip
    split at hq <;> cases hq
  have hb : q = .bool → P.underlying t = some .bool := by
    intro e; subst e
    unfold eqOf at hq
    split at hq <;> first | (cases hq; done) | assumption | skip
    split at hq <;> first | (cases hq; done) | skip
    split at hq <;> cases hq
  cases x with
  | int k a =>
    simp only [bin] at h
    obtain ⟨k', b, rfl, h2⟩ := AV.onInt_some h
    clear h
    simp only [VR] at hx hy
    subst hx; subst hy
    cases hc : (isShift op || decide (k = k')) with
    | false => rw [hc] at h2; cases h2
    | true => rw [hc] at h2; exact bin_int (by simpa using hc) h2
  | str a =>
    simp only [bin] at h
    obtain ⟨b, rfl, h2⟩ := AV.onStr_some h
    simp only [VR] at hx hy
    subst hx; subst hy
    exact bin_str h2
  | bool a =>
    simp only [bin] at h
    split at h
    · rename_i e
      obtain ⟨b, rfl, h2⟩ := AV.onBool_some h
      simp only [VR] at hx hy
      subst hx; subst hy
      exact bin_eq h2 (by rintro op' (rfl | rfl) <;> rfl) (equal_bool (hb e))
    · cases h
  | nilp =>
    simp only [bin] at h
    split at h
    · rename_i e
      obtain ⟨el, i, h1, h2, h3⟩ := hp e
      simp only [VR] at hx
      subst hx
      cases y <;> simp only [] at h <;> first | (cases h; done) | skip
      · obtain ⟨p, _, rfl⟩ := hy
        exact bin_eq h (by rintro op' (rfl | rfl) <;> rfl) (equal_ptr h1 h2 h3 _ (.inl ⟨rfl, rfl⟩))
      · simp only [VR] at hy
        subst hy
        exact bin_eq h (by rintro op' (rfl | rfl) <;> rfl) (equal_ptr h1 h2 h3 _ (.inl ⟨rfl, rfl⟩))
    · cases h
  | ptr g o =>
    simp only [bin] at h
    split at h
    · rename_i e
      obtain ⟨el, i, h1, h2, h3⟩ := hp e
      obtain ⟨p, hp1, rfl⟩ := hx
      cases y <;> simp only [] at h <;> first | (cases h; done) | skip
      · split at h
        · rename_i eg
          subst eg
          obtain ⟨p', hp', rfl⟩ := hy
          rw [hp1] at hp'; cases hp'
          refine bin_eq h (by rintro op' (rfl | rfl) <;> rfl) (equal_ptr h1 h2 h3 _ (.inr (.inr ⟨_, _, rfl, rfl, rfl, ?_⟩)))
          rw [Bool.eq_iff_iff]
          simp
        · cases h
      · simp only [VR] at hy
        subst hy
        exact bin_eq h (by rintro op' (rfl | rfl) <;> rfl) (equal_ptr h1 h2 h3 _ (.inr (.inl ⟨by simp, rfl, rfl⟩)))
    · cases h
  | snil =>
    simp only [bin] at h
    split at h
    · rename_i e
      obtain ⟨el, h1⟩ := hs e
      simp only [VR] at hx
      subst hx
      cases y <;> simp only [] at h <;> first | (cases h; done) | skip
      · obtain ⟨p, ad, c, _, rfl, _⟩ := hy
        exact bin_eq h (by rintro op' (rfl | rfl) <;> rfl) (equal_slice h1 _ (.inl ⟨rfl, rfl⟩))
      · simp only [VR] at hy
        subst hy
        exact bin_eq h (by rintro op' (rfl | rfl) <;> rfl) (equal_slice h1 _ (.inl ⟨rfl, rfl⟩))
    · cases h
  | slice z g o l c =>
    simp only [bin] at h
    split at h
    · rename_i e
      obtain ⟨el, h1⟩ := hs e
      obtain ⟨p, ad, c, _, rfl, _⟩ := hx
      cases y <;> simp only [] at h <;> first | (cases h; done) | skip
      simp only [VR] at hy
      subst hy
      exact bin_eq h (by rintro op' (rfl | rfl) <;> rfl) (equal_slice h1 _ (.inr ⟨by simp, rfl, rfl⟩))
    · cases h
  | nilf =>
    simp only [bin] at h
    split at h
    · rename_i e
      obtain ⟨_, _, _, h1⟩ := hf e
      simp only [VR] at hx
      subst hx
      cases y <;> simp only [] at h <;> first | (cases h; done) | skip
      · obtain ⟨_, rfl, _⟩ := hy
        exact bin_eq h (by rintro op' (rfl | rfl) <;> rfl) (equal_func h1 _ (by first | exact .inl ⟨rfl, rfl, rfl⟩ | exact .inr (.inl ⟨rfl, ⟨_, _, _, rfl⟩, rfl⟩) | exact .inr (.inr ⟨⟨_, _, _, rfl⟩, rfl, rfl⟩)))
      · simp only [VR] at hy
        subst hy
        exact bin_eq h (by rintro op' (rfl | rfl) <;> rfl) (equal_func h1 _ (by first | exact .inl ⟨rfl, rfl, rfl⟩ | exact .inr (.inl ⟨rfl, ⟨_, _, _, rfl⟩, rfl⟩) | exact .inr (.inr ⟨⟨_, _, _, rfl⟩, rfl, rfl⟩)))
    · cases h
  | func f cs =>
    simp only [bin] at h
    split at h
    · rename_i e
      obtain ⟨_, _, _, h1⟩ := hf e
      obtain ⟨_, rfl, _⟩ := hx
      cases y <;> simp only [] at h <;> first | (cases h; done) | skip
      simp only [VR] at hy
      subst hy
      exact bin_eq h (by rintro op' (rfl | rfl) <;> rfl) (equal_func h1 _ (by first | exact .inl ⟨rfl, rfl, rfl⟩ | exact .inr (.inl ⟨rfl, ⟨_, _, _, rfl⟩, rfl⟩) | exact .inr (.inr ⟨⟨_, _, _, rfl⟩, rfl, rfl⟩)))
    · cases h
  | iface _ _ => cases h
  | inil => cases h
  | agg _ => cases h
  | tup _ => cases h
  | bot => cases h
  | semp => cases h
end Am
end Go.Proofs.Ytmfobcejnkakpaa
