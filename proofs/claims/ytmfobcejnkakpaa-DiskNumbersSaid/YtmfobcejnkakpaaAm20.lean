/- The plain machine: the same, in a form that the kernel runs fast: every way of a case is a closed term, every number is brought to a literal as it is made. -/
import Derived.Test.YtmfobcejnkakpaaAm19
namespace Go.Proofs.Ytmfobcejnkakpaa
set_option linter.unusedVariables false
set_option linter.unusedSimpArgs false
namespace Am
open Go.RowKit
set_option maxRecDepth 10000

noncomputable def k_int {β : Type} (v : AV) (f : IntKind → Int → Option β) : Option β := AV.rec (motive_1 := fun _ => (IntKind → Int → Option β) → Option β) (motive_2 := fun _ => PUnit) (fun a0 a1 => fun f => f a0 a1) (fun _ => fun _ => none) (fun _ => fun _ => none) (fun _ _ => fun _ => none) (fun _ => none) (fun _ _ _ _ _ => fun _ => none) (fun _ => none) (fun _ _ _ => fun _ => none) (fun _ => none) (fun _ _ _ => fun _ => none) (fun _ => none) (fun _ _ => fun _ => none) (fun _ _ => fun _ => none) (fun _ => none) (fun _ => none) PUnit.unit (fun _ _ _ _ => PUnit.unit) v f
theorem k_int_eq {β : Type} (v : AV) (f : IntKind → Int → Option β) : k_int v f = v.onInt f := by cases v <;> rfl
noncomputable def k_bool {β : Type} (v : AV) (f : Bool → Option β) : Option β := AV.rec (motive_1 := fun _ => (Bool → Option β) → Option β) (motive_2 := fun _ => PUnit) (fun _ _ => fun _ => none) (fun a0 => fun f => f a0) (fun _ => fun _ => none) (fun _ _ => fun _ => none) (fun _ => none) (fun _ _ _ _ _ => fun _ => none) (fun _ => none) (fun _ _ _ => fun _ => none) (fun _ => none) (fun _ _ _ => fun _ => none) (fun _ => none) (fun _ _ => fun _ => none) (fun _ _ => fun _ => none) (fun _ => none) (fun _ => none) PUnit.unit (fun _ _ _ _ => PUnit.unit) v f
theorem k_bool_eq {β : Type} (v : AV) (f : Bool → Option β) : k_bool v f = v.onBool f := by cases v <;> rfl
noncomputable def k_str {β : Type} (v : AV) (f : List UInt8 → Option β) : Option β := AV.rec (motive_1 := fun _ => (List UInt8 → Option β) → Option β) (motive_2 := fun _ => PUnit) (fun _ _ => fun _ => none) (fun _ => fun _ => none) (fun a0 => fun f => f a0) (fun _ _ => fun _ => none) (fun _ => none) (fun _ _ _ _ _ => fun _ => none) (fun _ => none) (fun _ _ _ => fun _ => none) (fun _ => none) (fun _ _ _ => fun _ => none) (fun _ => none) (fun _ _ => fun _ => none) (fun _ _ => fun _ => none) (fun _ => none) (fun _ => none) PUnit.unit (fun _ _ _ _ => PUnit.unit) v f
theorem k_str_eq {β : Type} (v : AV) (f : List UInt8 → Option β) : k_str v f = v.onStr f := by cases v <;> rfl
noncomputable def k_ptr {β : Type} (v : AV) (f : Nat → Nat → Option β) : Option β := AV.rec (motive_1 := fun _ => (Nat → Nat → Option β) → Option β) (motive_2 := fun _ => PUnit) (fun _ _ => fun _ => none) (fun _ => fun _ => none) (fun _ => fun _ => none) (fun a0 a1 => fun f => f a0 a1) (fun _ => none) (fun _ _ _ _ _ => fun _ => none) (fun _ => none) (fun _ _ _ => fun _ => none) (fun _ => none) (fun _ _ _ => fun _ => none) (fun _ => none) (fun _ _ => fun _ => none) (fun _ _ => fun _ => none) (fun _ => none) (fun _ => none) PUnit.unit (fun _ _ _ _ => PUnit.unit) v f
theorem k_ptr_eq {β : Type} (v : AV) (f : Nat → Nat → Option β) : k_ptr v f = v.onPtr f := by cases v <;> rfl
noncomputable def k_agg {β : Type} (v : AV) (f : List AV → Option β) : Option β := AV.rec (motive_1 := fun _ => (List AV → Option β) → Option β) (motive_2 := fun _ => PUnit) (fun _ _ => fun _ => none) (fun _ => fun _ => none) (fun _ => fun _ => none) (fun _ _ => fun _ => none) (fun _ => none) (fun _ _ _ _ _ => fun _ => none) (fun _ => none) (fun _ _ _ => fun _ => none) (fun _ => none) (fun _ _ _ => fun _ => none) (fun _ => none) (fun a0 _ => fun f => f a0) (fun _ _ => fun _ => none) (fun _ => none) (fun _ => none) PUnit.unit (fun _ _ _ _ => PUnit.unit) v f
theorem k_agg_eq {β : Type} (v : AV) (f : List AV → Option β) : k_agg v f = v.onAgg f := by cases v <;> rfl
noncomputable def k_tup {β : Type} (v : AV) (f : List AV → Option β) : Option β := AV.rec (motive_1 := fun _ => (List AV → Option β) → Option β) (motive_2 := fun _ => PUnit) (fun _ _ => fun _ => none) (fun _ => fun _ => none) (fun _ => fun _ => none) (fun _ _ => fun _ => none) (fun _ => none) (fun _ _ _ _ _ => fun _ => none) (fun _ => none) (fun _ _ _ => fun _ => none) (fun _ => none) (fun _ _ _ => fun _ => none) (fun _ => none) (fun _ _ => fun _ => none) (fun a0 _ => fun f => f a0) (fun _ => none) (fun _ => none) PUnit.unit (fun _ _ _ _ => PUnit.unit) v f
theorem k_tup_eq {β : Type} (v : AV) (f : List AV → Option β) : k_tup v f = v.onTup f := by cases v <;> rfl

-- numbers
noncomputable def k_kind (k : IntKind) : Nat := IntKind.rec (motive := fun _ => Nat) 0 1 2 3 4 5 6 7 k
noncomputable def k_pw (k : IntKind) : Nat := IntKind.rec (motive := fun _ => Nat) 256 65536 4294967296 18446744073709551616 256 65536 4294967296 18446744073709551616 k
noncomputable def k_bits (k : IntKind) : Nat := IntKind.rec (motive := fun _ => Nat) 8 16 32 64 8 16 32 64 k
/-- a number brought to a literal -/
noncomputable def k_lit {β : Type} (n : Nat) (f : Nat → β) : β := Nat.rec (motive := fun _ => (Nat → β) → β) (fun f => f 0) (fun m _ f => f (Nat.succ m)) n f
noncomputable def k_ilit {β : Type} (n : Int) (f : Int → β) : β := Int.rec (motive := fun _ => (Int → β) → β) (fun m f => k_lit m fun m => f (.ofNat m)) (fun m f => k_lit m fun m => f (.negSucc m)) n f
noncomputable def k_subNN (m n : Nat) : Int := Bool.rec (motive := fun _ => Int) (.negSucc (Nat.pred (Nat.sub n m))) (.ofNat (Nat.sub m n)) (Nat.ble n m)
noncomputable def k_add (a b : Int) : Int := Int.rec (motive := fun _ => Int → Int)
  (fun m b => Int.rec (motive := fun _ => Nat → Int) (fun n m => .ofNat (Nat.add m n)) (fun n m => k_subNN m (Nat.succ n)) b m)
  (fun m b => Int.rec (motive := fun _ => Nat → Int) (fun n m => k_subNN n (Nat.succ m)) (fun n m => .negSucc (Nat.succ (Nat.add m n))) b m) a b
noncomputable def k_neg (a : Int) : Int := Int.rec (motive := fun _ => Int) (fun m => Nat.rec (motive := fun _ => Int) (.ofNat 0) (fun k _ => .negSucc k) m) (fun m => .ofNat (Nat.succ m)) a
noncomputable def k_mul (a b : Int) : Int := Int.rec (motive := fun _ => Int → Int)
  (fun m b => Int.rec (motive := fun _ => Nat → Int) (fun n m => .ofNat (Nat.mul m n)) (fun n m => k_neg (.ofNat (Nat.mul m (Nat.succ n)))) b m)
  (fun m b => Int.rec (motive := fun _ => Nat → Int) (fun n m => k_neg (.ofNat (Nat.mul (Nat.succ m) n))) (fun n m => .ofNat (Nat.mul (Nat.succ m) (Nat.succ n))) b m) a b
noncomputable def k_lt (a b : Int) : Bool := Int.rec (motive := fun _ => Int → Bool)
  (fun m b => Int.rec (motive := fun _ => Nat → Bool) (fun n m => Nat.blt m n) (fun _ _ => false) b m)
  (fun m b => Int.rec (motive := fun _ => Nat → Bool) (fun _ _ => true) (fun n m => Nat.blt n m) b m) a b
noncomputable def k_eqi (a b : Int) : Bool := Int.rec (motive := fun _ => Int → Bool)
  (fun m b => Int.rec (motive := fun _ => Nat → Bool) (fun n m => Nat.beq m n) (fun _ _ => false) b m)
  (fun m b => Int.rec (motive := fun _ => Nat → Bool) (fun _ _ => false) (fun n m => Nat.beq n m) b m) a b
/-- both not below zero, or the slow way -/
noncomputable def k_nat2 {β : Type} (f : Nat → Nat → β) (s : Int → Int → β) (a b : Int) : β := Int.rec (motive := fun _ => (Nat → Nat → β) → (Int → Int → β) → Int → β)
  (fun m f s b => Int.rec (motive := fun _ => (Nat → Nat → β) → (Int → Int → β) → Nat → β) (fun n f _ m => f m n) (fun n _ s m => s (.ofNat m) (.negSucc n)) b f s m)
  (fun m _ s b => s (.negSucc m) b) a f s b
noncomputable def k_wrU (w : Nat) (s : Int → Int) (n : Int) : Int := Int.rec (motive := fun _ => Nat → (Int → Int) → Int) (fun m w _ => .ofNat (Nat.mod m w)) (fun m _ s => s (.negSucc m)) n w s
noncomputable def k_wrI (w : Nat) (s : Int → Int) (n : Int) : Int := Int.rec (motive := fun _ => Nat → (Int → Int) → Int)
  (fun m w s => Bool.rec (motive := fun _ => Int) (s (.ofNat m)) (.ofNat m) (Nat.blt m w)) (fun m w s => Bool.rec (motive := fun _ => Int) (s (.negSucc m)) (.negSucc m) (Nat.blt m w)) n w s
noncomputable def k_wr (k : IntKind) (n : Int) : Int := IntKind.rec (motive := fun _ => Int → Int)
  (fun n => k_wrI 128 (wr .i8) n) (fun n => k_wrI 32768 (wr .i16) n) (fun n => k_wrI 2147483648 (wr .i32) n) (fun n => k_wrI 9223372036854775808 (wr .i64) n)
  (fun n => k_wrU 256 (wr .u8) n) (fun n => k_wrU 65536 (wr .u16) n) (fun n => k_wrU 4294967296 (wr .u32) n) (fun n => k_wrU 18446744073709551616 (wr .u64) n) k n
noncomputable def k_out (k : IntKind) (n : Int) : Option AV := k_ilit n fun n => some (.int k n)
noncomputable def k_outw (k : IntKind) (n : Int) : Option AV := k_ilit (k_wr k n) fun n => some (.int k n)
noncomputable def k_bool' (b : Bool) : Option AV := Bool.rec (motive := fun _ => Option AV) (some (.bool false)) (some (.bool true)) b
noncomputable def k_not (b : Bool) : Bool := Bool.rec (motive := fun _ => Bool) true false b
noncomputable def k_min (a b : Nat) : Nat := Bool.rec (motive := fun _ => Nat) b a (Nat.ble a b)
noncomputable def k_intOp (op : BinOp) (k : IntKind) (a b : Int) : Option AV := BinOp.rec (motive := fun _ => IntKind → Int → Int → Option AV)
  (fun k a b => k_outw k (k_add a b))
  (fun k a b => k_outw k (k_add a (k_neg b)))
  (fun k a b => k_outw k (k_mul a b))
  (fun k a b => k_nat2 (fun m n => Bool.rec (motive := fun _ => Option AV) (k_outw k (.ofNat (Nat.div m n))) none (Nat.beq n 0)) (fun a b => intOp .quo k a b) a b)
  (fun k a b => k_nat2 (fun m n => Bool.rec (motive := fun _ => Option AV) (k_out k (.ofNat (Nat.mod m n))) none (Nat.beq n 0)) (fun a b => intOp .rem k a b) a b)
  (fun k a b => k_nat2 (fun m n => k_outw k (.ofNat (Nat.land (Nat.mod m (k_pw k)) (Nat.mod n (k_pw k))))) (fun a b => intOp .and k a b) a b)
  (fun k a b => k_nat2 (fun m n => k_outw k (.ofNat (Nat.lor (Nat.mod m (k_pw k)) (Nat.mod n (k_pw k))))) (fun a b => intOp .or k a b) a b)
  (fun k a b => k_nat2 (fun m n => k_outw k (.ofNat (Nat.xor (Nat.mod m (k_pw k)) (Nat.mod n (k_pw k))))) (fun a b => intOp .xor k a b) a b)
  (fun k a b => k_nat2 (fun m n => k_outw k (.ofNat (Nat.mul m (Nat.pow 2 (k_min n (k_bits k)))))) (fun a b => intOp .shl k a b) a b)
  (fun k a b => k_nat2 (fun m n => k_out k (.ofNat (Nat.div m (Nat.pow 2 (k_min n (k_bits k)))))) (fun a b => intOp .shr k a b) a b)
  (fun k a b => intOp .andNot k a b)
  (fun _ a b => k_bool' (k_eqi a b))
  (fun _ a b => k_bool' (k_not (k_eqi a b)))
  (fun _ a b => k_bool' (k_lt a b))
  (fun _ a b => k_bool' (k_not (k_lt b a)))
  (fun _ a b => k_bool' (k_lt b a))
  (fun _ a b => k_bool' (k_not (k_lt a b))) op k a b
-- bytes
def k_byte (m : Nat) : UInt8 := ⟨⟨⟨Nat.mod m 256, Nat.mod_lt m (Nat.zero_lt_succ 255)⟩⟩⟩
def k_bn (b : UInt8) : Nat := b.toBitVec.toFin.val
noncomputable def k_len {α : Type} (l : List α) (a : Nat) : Nat := List.rec (motive := fun _ => Nat → Nat) (fun a => a) (fun _ _ ih a => k_lit a fun a => ih (Nat.succ a)) l a
noncomputable def k_if {β : Type} (c : Bool) (a : Option β) : Option β := Bool.rec (motive := fun _ => Option β → Option β) (fun _ => none) (fun a => a) c a
/-- two rows, one behind the other: laid at once -/
noncomputable def k_appS {α β : Type} (l r : List α) (f : List α → β) : β := List.rec (motive := fun _ => List α → (List α → β) → β) (fun r f => f r) (fun x _ ih r f => ih r fun l => f (x :: l)) l r f
noncomputable def k_strEq (a b : List UInt8) : Bool := List.rec (motive := fun _ => List UInt8 → Bool) (fun b => List.rec (motive := fun _ => Bool) true (fun _ _ _ => false) b)
  (fun x _ ih b => List.rec (motive := fun _ => Bool) false (fun y b _ => Bool.rec (motive := fun _ => Bool) false (ih b) (Nat.beq (k_bn x) (k_bn y))) b) a b
noncomputable def k_strLt (a b : List UInt8) : Bool := List.rec (motive := fun _ => List UInt8 → Bool) (fun b => List.rec (motive := fun _ => Bool) false (fun _ _ _ => true) b)
  (fun x _ ih b => List.rec (motive := fun _ => Bool) false (fun y b _ => Bool.rec (motive := fun _ => Bool) (Bool.rec (motive := fun _ => Bool) false (ih b) (Nat.beq (k_bn x) (k_bn y))) true (Nat.blt (k_bn x) (k_bn y))) b) a b
noncomputable def k_or (a b : Bool) : Bool := Bool.rec (motive := fun _ => Bool) b true a
noncomputable def k_strOp (op : BinOp) (a b : List UInt8) : Option AV := BinOp.rec (motive := fun _ => List UInt8 → List UInt8 → Option AV)
  (fun a b => k_if (Nat.ble (Nat.add (k_len a 0) (k_len b 0)) 8388608) (k_appS a b fun l => some (.str l)))
  (fun _ _ => none) (fun _ _ => none) (fun _ _ => none) (fun _ _ => none) (fun _ _ => none) (fun _ _ => none) (fun _ _ => none) (fun _ _ => none) (fun _ _ => none) (fun _ _ => none)
  (fun a b => k_bool' (k_strEq a b)) (fun a b => k_bool' (k_not (k_strEq a b)))
  (fun a b => k_bool' (k_strLt a b)) (fun a b => k_bool' (k_or (k_strLt a b) (k_strEq a b))) (fun a b => k_bool' (k_not (k_or (k_strLt a b) (k_strEq a b)))) (fun a b => k_bool' (k_not (k_strLt a b))) op a b
noncomputable def k_shift (op : BinOp) : Bool := BinOp.rec (motive := fun _ => Bool) false false false false false false false false true true false false false false false false false op
noncomputable def k_bin (op : BinOp) (q : Eq) (x y : AV) : Option AV := AV.rec (motive_1 := fun _ => BinOp → Eq → AV → Option AV) (motive_2 := fun _ => PUnit) (fun a0 a1 => fun op q y => k_int y fun k b => Bool.rec (motive := fun _ => Option AV) (Bool.rec (motive := fun _ => Option AV) none (k_intOp op a0 a1 b) (Nat.beq (k_kind a0) (k_kind k))) (k_intOp op a0 a1 b) (k_shift op)) (fun a0 => fun op q y => bin op q (.bool a0) y) (fun a0 => fun op q y => k_str y fun b => k_strOp op a0 b) (fun a0 a1 => fun op q y => bin op q (.ptr a0 a1) y) (fun op q y => bin op q (.nilp) y) (fun a0 a1 a2 a3 a4 => fun op q y => bin op q (.slice a0 a1 a2 a3 a4) y) (fun op q y => bin op q (.snil) y) (fun a0 a1 _ => fun op q y => bin op q (.func a0 a1) y) (fun op q y => bin op q (.nilf) y) (fun a0 a1 _ => fun op q y => bin op q (.iface a0 a1) y) (fun op q y => bin op q (.inil) y) (fun a0 _ => fun op q y => bin op q (.agg a0) y) (fun a0 _ => fun op q y => bin op q (.tup a0) y) (fun op q y => bin op q (.bot) y) (fun op q y => bin op q (.semp) y) PUnit.unit (fun _ _ _ _ => PUnit.unit) x op q y
-- places
noncomputable def k_get (l : List AV) (n : Nat) : AV := List.rec (motive := fun _ => Nat → AV) (fun _ => .bot) (fun v _ ih n => Nat.rec (motive := fun _ => AV) v (fun m _ => ih m) n) l n
/-- laid at once -/
noncomputable def k_set {β : Type} (l : List AV) (n : Nat) (v : AV) (f : List AV → β) : β := List.rec (motive := fun _ => Nat → AV → (List AV → β) → β) (fun _ _ f => f []) (fun x l ih n v f => Nat.rec (motive := fun _ => β) (f (v :: l)) (fun m _ => ih m v fun l => f (x :: l)) n) l n v f
noncomputable def k_look (d : Nat) (e : En) : AV := List.rec (motive := fun _ => Nat → AV) (fun _ => .bot) (fun kv _ ih d => Bool.rec (motive := fun _ => AV) (ih d) kv.2 (Nat.beq kv.1 d)) e d
noncomputable def k_od (x : Od) (e : En) (t : List AV) : AV := Od.rec (motive := fun _ => En → List AV → AV) (fun i _ t => k_get t i) (fun d e _ => k_look d e) (fun v _ _ => v) x e t
noncomputable def k_oev (x : Option Od) (e : En) (t : List AV) : Option AV := Option.rec (motive := fun _ => En → List AV → Option AV) (fun _ _ => none) (fun o e t => some (k_od o e t)) x e t
noncomputable def k_some {α β : Type} (x : Option α) (f : α → Option β) : Option β := Option.rec (motive := fun _ => (α → Option β) → Option β) (fun _ => none) (fun a f => f a) x f
noncomputable def k_row {X : Type} (h : Hp X) (g : Nat) : Option (List AV) := Option.rec (motive := fun _ => Option (List AV)) none (fun b => AB.rec (motive := fun _ => Option (List AV)) some some (fun _ => none) b) (h.get g)
noncomputable def k_getN (l : List AV) (n : Nat) : Option AV := List.rec (motive := fun _ => Nat → Option AV) (fun _ => none) (fun v _ ih n => Nat.rec (motive := fun _ => Option AV) (some v) (fun m _ => ih m) n) l n
noncomputable def k_nOf (v : AV) : Option Nat := k_int v fun _ n => Int.rec (motive := fun _ => Option Nat) (fun m => some m) (fun _ => none) n
noncomputable def k_slice {β : Type} (v : AV) (f : Nat → Nat → Nat → Nat → Option Nat → Option β) (n : Option β) : Option β := AV.rec (motive_1 := fun _ => (Nat → Nat → Nat → Nat → Option Nat → Option β) → Option β → Option β) (motive_2 := fun _ => PUnit) (fun _ _ => fun _ _ => none) (fun _ => fun _ _ => none) (fun _ => fun _ _ => none) (fun _ _ => fun _ _ => none) (fun _ _ => none) (fun a0 a1 a2 a3 a4 => fun f _ => f a0 a1 a2 a3 a4) (fun _ n => n) (fun _ _ _ => fun _ _ => none) (fun _ _ => none) (fun _ _ _ => fun _ _ => none) (fun _ _ => none) (fun _ _ => fun _ _ => none) (fun _ _ => fun _ _ => none) (fun _ _ => none) (fun _ _ => none) PUnit.unit (fun _ _ _ _ => PUnit.unit) v f n
noncomputable def k_slice0 {β : Type} (v : AV) (f : Nat → Nat → Nat → Nat → Option Nat → Option β) (n : Option β) : Option β := AV.rec (motive_1 := fun _ => (Nat → Nat → Nat → Nat → Option Nat → Option β) → Option β → Option β) (motive_2 := fun _ => PUnit) (fun _ _ => fun _ _ => none) (fun _ => fun _ _ => none) (fun _ => fun _ _ => none) (fun _ _ => fun _ _ => none) (fun _ _ => none) (fun a0 a1 a2 a3 a4 => fun f _ => f a0 a1 a2 a3 a4) (fun _ n => n) (fun _ _ _ => fun _ _ => none) (fun _ _ => none) (fun _ _ _ => fun _ _ => none) (fun _ _ => none) (fun _ _ => fun _ _ => none) (fun _ _ => fun _ _ => none) (fun _ _ => none) (fun _ n => n) PUnit.unit (fun _ _ _ _ => PUnit.unit) v f n
/-- a value brought to its outermost word -/
noncomputable def k_fv {β : Type} (v : AV) (f : AV → β) : β := AV.rec (motive_1 := fun _ => (AV → β) → β) (motive_2 := fun _ => PUnit) (fun a0 a1 => fun f => f (.int a0 a1)) (fun a0 => fun f => f (.bool a0)) (fun a0 => fun f => f (.str a0)) (fun a0 a1 => fun f => f (.ptr a0 a1)) (fun f => f (.nilp)) (fun a0 a1 a2 a3 a4 => fun f => f (.slice a0 a1 a2 a3 a4)) (fun f => f (.snil)) (fun a0 a1 _ => fun f => f (.func a0 a1)) (fun f => f (.nilf)) (fun a0 a1 _ => fun f => f (.iface a0 a1)) (fun f => f (.inil)) (fun a0 _ => fun f => f (.agg a0)) (fun a0 _ => fun f => f (.tup a0)) (fun f => f (.bot)) (fun f => f (.semp)) PUnit.unit (fun _ _ _ _ => PUnit.unit) v f
/-- and its numbers -/
noncomputable def k_fvd {β : Type} (v : AV) (f : AV → β) : β := AV.rec (motive_1 := fun _ => (AV → β) → β) (motive_2 := fun _ => PUnit) (fun a0 a1 => fun f => k_ilit a1 fun n => f (.int a0 n)) (fun a0 => fun f => f (.bool a0)) (fun a0 => fun f => f (.str a0)) (fun a0 a1 => fun f => k_lit a0 fun g => k_lit a1 fun o => f (.ptr g o)) (fun f => f (.nilp)) (fun a0 a1 a2 a3 a4 => fun f => k_lit a1 fun g => k_lit a2 fun o => k_lit a3 fun n => f (.slice a0 g o n a4)) (fun f => f (.snil)) (fun a0 a1 _ => fun f => f (.func a0 a1)) (fun f => f (.nilf)) (fun a0 a1 _ => fun f => f (.iface a0 a1)) (fun f => f (.inil)) (fun a0 _ => fun f => f (.agg a0)) (fun a0 _ => fun f => f (.tup a0)) (fun f => f (.bot)) (fun f => f (.semp)) PUnit.unit (fun _ _ _ _ => PUnit.unit) v f
noncomputable def k_ods {β : Type} (xs : List Od) (e : En) (t : List AV) (f : List AV → β) : β := List.rec (motive := fun _ => En → List AV → (List AV → β) → β) (fun _ _ f => f []) (fun x _ ih e t f => k_fv (k_od x e t) fun v => ih e t fun l => f (v :: l)) xs e t f
noncomputable def k_parts (xs : List (Nat × Nat × Od)) (e : En) (t : List AV) : List (Nat × Nat × AV) := List.rec (motive := fun _ => En → List AV → List (Nat × Nat × AV)) (fun _ _ => []) (fun p _ ih e t => (p.1, p.2.1, k_od p.2.2 e t) :: ih e t) xs e t
noncomputable def k_capB {X : Type} (h : Hp X) (z g off len : Nat) (cap : Option Nat) (n : Nat) : Bool :=
  Bool.rec (motive := fun _ => Bool) (Option.rec (motive := fun _ => Bool) (Option.rec (motive := fun _ => Bool) false (fun l => Nat.ble (Nat.add off (Nat.mul n z)) (k_len l 0)) (k_row h g)) (fun k => Nat.ble n k) cap) true (Nat.ble n len)
noncomputable def k_take {α : Type} (n : Nat) (l : List α) : List α := List.rec (motive := fun _ => Nat → List α) (fun _ => []) (fun x _ ih n => Nat.rec (motive := fun _ => List α) [] (fun m _ => x :: ih m) n) l n
noncomputable def k_drop {α : Type} (n : Nat) (l : List α) : List α := List.rec (motive := fun _ => Nat → List α) (fun _ => []) (fun x l ih n => Nat.rec (motive := fun _ => List α) (x :: l) (fun m _ => ih m) n) l n
noncomputable def k_app {α : Type} (l r : List α) : List α := List.rec (motive := fun _ => List α → List α) (fun r => r) (fun x _ ih r => x :: ih r) l r
noncomputable def k_takeN (n off : Nat) (l : List AV) : Option (List AV) := k_if (Nat.ble (Nat.add off n) (k_len l 0)) (some (k_take n (k_drop off l)))
/-- n cells from off on, and then those: laid at once -/
noncomputable def k_takeS {β : Type} (d : β) (n off : Nat) (l vs : List AV) (f : List AV → β) : β := List.rec (motive := fun _ => Nat → Nat → List AV → β → (List AV → β) → β)
  (fun off n vs d f => Bool.rec (motive := fun _ => β) d (f vs) (Nat.beq (Nat.add off n) 0))
  (fun x _ ih off n vs d f => Nat.rec (motive := fun _ => β) (Nat.rec (motive := fun _ => β) (f vs) (fun m _ => ih 0 m vs d fun r => f (x :: r)) n) (fun m _ => ih m n vs d f) off) l off n vs d f
noncomputable def k_u8 {β : Type} (v : AV) (d : β) (f : Int → β) : β := AV.rec (motive_1 := fun _ => β → (Int → β) → β) (motive_2 := fun _ => PUnit) (fun a0 a1 => fun d f => IntKind.rec (motive := fun _ => β → (Int → β) → Int → β) (fun d _ _ => d) (fun d _ _ => d) (fun d _ _ => d) (fun d _ _ => d) (fun _ f n => f n) (fun d _ _ => d) (fun d _ _ => d) (fun d _ _ => d) a0 d f a1) (fun _ => fun d _ => d) (fun _ => fun d _ => d) (fun _ _ => fun d _ => d) (fun d _ => d) (fun _ _ _ _ _ => fun d _ => d) (fun d _ => d) (fun _ _ _ => fun d _ => d) (fun d _ => d) (fun _ _ _ => fun d _ => d) (fun d _ => d) (fun _ _ => fun d _ => d) (fun _ _ => fun d _ => d) (fun d _ => d) (fun d _ => d) PUnit.unit (fun _ _ _ _ => PUnit.unit) v d f
noncomputable def k_bytes {β : Type} (l : List AV) (d : β) (f : List UInt8 → β) : β := List.rec (motive := fun _ => β → (List UInt8 → β) → β) (fun _ f => f [])
  (fun v _ ih d f => k_u8 v d fun n => Int.rec (motive := fun _ => β) (fun m => ih d fun s => f (k_byte m :: s)) (fun _ => ih d fun s => f (k_byte 0 :: s)) n) l d f
noncomputable def k_mapB {β : Type} (l : List UInt8) (f : List AV → β) : β := List.rec (motive := fun _ => (List AV → β) → β) (fun f => f []) (fun b _ ih f => k_lit (k_bn b) fun n => ih fun l => f (.int .u8 (.ofNat n) :: l)) l f
noncomputable def k_rep {β : Type} (l : List AV) (n : Nat) (f : List AV → β) : β := Nat.rec (motive := fun _ => (List AV → β) → β) (fun f => f []) (fun _ ih f => ih fun r => k_appS l r f) n f
noncomputable def k_getB (l : List UInt8) (n : Nat) : Option UInt8 := List.rec (motive := fun _ => Nat → Option UInt8) (fun _ => none) (fun v _ ih n => Nat.rec (motive := fun _ => Option UInt8) (some v) (fun m _ => ih m) n) l n
noncomputable def k_spl (off : Nat) (vs l : List AV) : List AV := List.rec (motive := fun _ => Nat → List AV → List AV) (fun _ vs => vs) (fun x l ih off vs => Nat.rec (motive := fun _ => List AV) (k_app vs (k_drop (k_len vs 0) (x :: l))) (fun m _ => x :: ih m vs) off) l off vs
noncomputable def k_cells (v : AV) : Option (List AV) := AV.rec (motive_1 := fun _ => Option (List AV)) (motive_2 := fun _ => PUnit) (fun a0 a1 => some [.int a0 a1]) (fun a0 => some [.bool a0]) (fun a0 => some [.str a0]) (fun a0 a1 => some [.ptr a0 a1]) (some [.nilp]) (fun a0 a1 a2 a3 a4 => some [.slice a0 a1 a2 a3 a4]) (some [.snil]) (fun a0 a1 _ => some [.func a0 a1]) (some [.nilf]) (fun a0 a1 _ => some [.iface a0 a1]) (some [.inil]) (fun a0 _ => some a0) (fun _ _ => none) (none) (some [.semp]) PUnit.unit (fun _ _ _ _ => PUnit.unit) v
noncomputable def k_one (v : AV) : Bool := AV.rec (motive_1 := fun _ => Bool) (motive_2 := fun _ => PUnit) (fun _ _ => true) (fun _ => true) (fun _ => true) (fun _ _ => true) (true) (fun _ _ _ _ _ => true) (true) (fun _ _ _ => true) (true) (fun _ _ _ => true) (true) (fun a0 _ => false) (fun a0 _ => false) (false) (true) PUnit.unit (fun _ _ _ _ => PUnit.unit) v
noncomputable def k_all (l : List AV) : Bool := List.rec (motive := fun _ => Bool) true (fun x _ ih => Bool.rec (motive := fun _ => Bool) false ih (k_one x)) l
noncomputable def k_hi (hi : Option AV) (len : Nat) (ub : Nat → Bool) : Option Nat := Option.rec (motive := fun _ => Nat → (Nat → Bool) → Option Nat) (fun len _ => some len) (fun v _ ub => k_some (k_nOf v) fun n => k_if (ub n) (some n)) hi len ub
noncomputable def k_lo (lo : Option AV) (hh : Nat) : Option Nat := Option.rec (motive := fun _ => Nat → Option Nat) (fun _ => some 0) (fun v hh => k_some (k_nOf v) fun n => k_if (Nat.ble n hh) (some n)) lo hh
noncomputable def k_sl {X : Type} (h : Hp X) (z : Nat) (x : AV) (lo hi : Option AV) : Option AV :=
  k_slice x (fun z' g off len cap => k_if (Nat.beq z' z) (k_some (k_hi hi len (k_capB h z g off len cap)) fun hh => k_some (k_lo lo hh) fun l => k_lit (Nat.add off (Nat.mul l z)) fun o => k_lit (Nat.sub hh l) fun n =>
    some (.slice z g o n (Option.rec (motive := fun _ => Nat → Option Nat) (fun _ => none) (fun k l => k_lit (Nat.sub k l) some) cap l)))) (slB (X := X) z .snil lo hi none (k_capB h z))

noncomputable def k_slS (s : List UInt8) (lo hi : Option AV) : Option AV := k_lit (k_len s 0) fun len => k_some (k_hi hi len fun n => Nat.ble n len) fun hh => k_some (k_lo lo hh) fun l => some (.str (k_drop l (k_take hh s)))
section
variable {X : Type}
noncomputable def k_mv (o : Mv) (e : En) (t : List AV) (h : Hp X) : Option AV := Mv.rec (motive := fun _ => En → List AV → Hp X → Option AV)
  (fun x e t _ => k_fv (k_od x e t) some)
  (fun c x y e t _ => k_bool (k_od c e t) fun b => Bool.rec (motive := fun _ => Option AV) (k_fv (k_od y e t) some) (k_fv (k_od x e t) some) b)
  (fun op q x y e t _ => k_bin op q (k_od x e t) (k_od y e t))
  (fun x e t _ => k_bool (k_od x e t) fun b => k_bool' (k_not b))
  (fun x e t _ => k_int (k_od x e t) fun k n => k_outw k (k_neg n))
  (fun k x e t _ => k_int (k_od x e t) fun _ n => k_outw k n)
  (fun x e t h => k_slice0 (k_od x e t) (fun _ g off len _ => k_some (k_row h g) fun l => k_takeS none len off l [] fun r => k_bytes r none fun s => some (.str s)) (some (.str [])))
  (fun x e t h => (Mv.i2s (.const (k_od x e t))).ev [] [] h)
  (fun x e t h => (Mv.nilc (.const (k_od x e t))).ev [] [] h)
  (fun off x e t _ => k_agg (k_od x e t) fun l => k_some (k_getN l off) fun v => k_fv v some)
  (fun off n x e t h => k_agg (k_od x e t) fun l => k_some (k_takeN n off l) fun r => some (.agg r))
  (fun i x e t _ => k_tup (k_od x e t) fun l => k_some (k_getN l i) fun v => k_fv v some)
  (fun zero ps e t _ => k_some (fillA zero (k_parts ps e t)) fun l => some (.agg l))
  (fun off x e t _ => k_ptr (k_od x e t) fun g o => k_lit (Nat.add o off) fun o => some (.ptr g o))
  (fun z x i e t _ => k_slice (k_od x e t) (fun _ g off len _ => k_some (k_nOf (k_od i e t)) fun n => k_if (Nat.blt n len) (k_lit (Nat.add off (Nat.mul n z)) fun o => some (.ptr g o))) none)
  (fun x i e t _ => k_str (k_od x e t) fun s => k_some (k_nOf (k_od i e t)) fun n => k_some (k_getB s n) fun b => k_lit b.toNat fun b => some (.int .u8 (.ofNat b)))
  (fun z x lo hi mx e t h => Option.rec (motive := fun _ => Option AV) (k_sl h z (k_od x e t) (k_oev lo e t) (k_oev hi e t)) (fun m => slB (X := X) z (k_od x e t) (k_oev lo e t) (k_oev hi e t) (some (k_od m e t)) (k_capB h z)) mx)
  (fun x lo hi e t _ => k_str (k_od x e t) fun s => k_slS s (k_oev lo e t) (k_oev hi e t))
  (fun x e t h => k_ptr (k_od x e t) fun g o => k_some (k_row h g) fun l => k_getN l o)
  (fun n x e t h => k_ptr (k_od x e t) fun g o => k_some (k_row h g) fun l => k_some (k_takeN n o l) fun r => some (.agg r))
  (fun x e t _ => k_slice0 (k_od x e t) (fun _ _ _ len _ => some (.int .i64 (.ofNat len))) (some (.int .i64 (.ofNat 0))))
  (fun x e t _ => k_str (k_od x e t) fun s => k_lit (k_len s 0) fun n => some (.int .i64 (.ofNat n)))
  (fun x e t h => (Mv.capv (.const (k_od x e t))).ev [] [] h)
  (fun ty x e t _ => k_fv (k_od x e t) fun v => some (.iface ty v))
  (fun f cs e t _ => k_ods cs e t fun l => some (.func f l))
  (fun x y e t h => (Mv.maxv (.const (k_od x e t)) (.const (k_od y e t))).ev [] [] h)
  (fun x y e t h => (Mv.minv (.const (k_od x e t)) (.const (k_od y e t))).ev [] [] h) o e t h
-- the heap
noncomputable def k_fT {α β : Type} (t : T α) (f : T α → β) : β := T.rec (motive := fun _ => (T α → β) → β) (fun f => f .nil) (fun l v r _ _ f => f (.node l v r)) t f
noncomputable def k_node {α : Type} (l : T α) (v : Option α) (r : T α) (ih : T α → Nat → Option α → T α) (n : Nat) (a : Option α) : T α :=
  Bool.rec (motive := fun _ => T α) (Bool.rec (motive := fun _ => T α) (k_fT (ih r (Nat.div n 2) a) fun r => .node l v r) (k_fT (ih l (Nat.div n 2) a) fun l => .node l v r) (Nat.beq (Nat.mod n 2) 0)) (.node l a r) (Nat.beq n 0)
noncomputable def k_tset {α : Type} (f : Nat) (t : T α) (n : Nat) (a : Option α) : T α :=
  Nat.rec (motive := fun _ => T α → Nat → Option α → T α) (fun t _ _ => t)
    (fun _ ih t n a => T.rec (motive := fun _ => (T α → Nat → Option α → T α) → Nat → Option α → T α) (fun ih n a => k_node .nil none .nil ih n a) (fun l v r _ _ ih n a => k_node l v r ih n a) t ih n a) f t n a
noncomputable def k_tget {α : Type} (f : Nat) (t : T α) (n : Nat) : Option α :=
  Nat.rec (motive := fun _ => T α → Nat → Option α) (fun _ _ => none)
    (fun _ ih t n => T.rec (motive := fun _ => (T α → Nat → Option α) → Nat → Option α) (fun _ _ => none)
      (fun l v r _ _ ih n => Bool.rec (motive := fun _ => Option α) (Bool.rec (motive := fun _ => Option α) (ih r (Nat.div n 2)) (ih l (Nat.div n 2)) (Nat.beq (Nat.mod n 2) 0)) v (Nat.beq n 0)) t ih n) f t n
noncomputable def k_push {β : Type} (h : Hp X) (c : AB X) (f : Nat → Hp X → β) : β := k_lit h.n fun n => k_fT (k_tset 40 h.t n (some c)) fun t => f n ⟨t, Nat.succ n⟩
noncomputable def k_put {β : Type} (h : Hp X) (g : Nat) (c : AB X) (f : Hp X → β) : β := k_fT (k_tset 40 h.t g (some c)) fun t => f ⟨t, h.n⟩
noncomputable def k_heap {β : Type} (h : Hp X) (f : Hp X → β) : β := k_lit h.n fun n => k_fT h.t fun t => f ⟨t, n⟩
noncomputable def k_done (x : Option (AV × Hp X)) : FRes X := Option.rec (motive := fun _ => FRes X) .bad (fun p => k_fvd p.1 fun v => k_heap p.2 fun h => .ret v h) x
noncomputable def k_doneV (h : Hp X) (x : Option AV) : FRes X := Option.rec (motive := fun _ => Hp X → FRes X) (fun _ => .bad) (fun v h => .ret v h) x h
noncomputable def k_someF {α : Type} (x : Option α) (f : α → FRes X) : FRes X := Option.rec (motive := fun _ => (α → FRes X) → FRes X) (fun _ => .bad) (fun a f => f a) x f
noncomputable def k_ifF (c : Bool) (a : FRes X) : FRes X := Bool.rec (motive := fun _ => FRes X → FRes X) (fun _ => .bad) (fun a => a) c a
noncomputable def k_ptrF (v : AV) (f : Nat → Nat → FRes X) : FRes X := AV.rec (motive_1 := fun _ => (Nat → Nat → FRes X) → FRes X) (motive_2 := fun _ => PUnit) (fun _ _ => fun _ => .bad) (fun _ => fun _ => .bad) (fun _ => fun _ => .bad) (fun a0 a1 => fun f => f a0 a1) (fun _ => .bad) (fun _ _ _ _ _ => fun _ => .bad) (fun _ => .bad) (fun _ _ _ => fun _ => .bad) (fun _ => .bad) (fun _ _ _ => fun _ => .bad) (fun _ => .bad) (fun _ _ => fun _ => .bad) (fun _ _ => fun _ => .bad) (fun _ => .bad) (fun _ => .bad) PUnit.unit (fun _ _ _ _ => PUnit.unit) v f
noncomputable def k_sliceF (v : AV) (f : Nat → Nat → Nat → Nat → Option Nat → FRes X) (n : FRes X) : FRes X := AV.rec (motive_1 := fun _ => (Nat → Nat → Nat → Nat → Option Nat → FRes X) → FRes X → FRes X) (motive_2 := fun _ => PUnit) (fun _ _ => fun _ _ => .bad) (fun _ => fun _ _ => .bad) (fun _ => fun _ _ => .bad) (fun _ _ => fun _ _ => .bad) (fun _ _ => .bad) (fun a0 a1 a2 a3 a4 => fun f _ => f a0 a1 a2 a3 a4) (fun _ n => n) (fun _ _ _ => fun _ _ => .bad) (fun _ _ => .bad) (fun _ _ _ => fun _ _ => .bad) (fun _ _ => .bad) (fun _ _ => fun _ _ => .bad) (fun _ _ => fun _ _ => .bad) (fun _ _ => .bad) (fun _ _ => .bad) PUnit.unit (fun _ _ _ _ => PUnit.unit) v f n
noncomputable def k_sliceF0 (v : AV) (f : Nat → Nat → Nat → Nat → Option Nat → FRes X) (n : FRes X) : FRes X := AV.rec (motive_1 := fun _ => (Nat → Nat → Nat → Nat → Option Nat → FRes X) → FRes X → FRes X) (motive_2 := fun _ => PUnit) (fun _ _ => fun _ _ => .bad) (fun _ => fun _ _ => .bad) (fun _ => fun _ _ => .bad) (fun _ _ => fun _ _ => .bad) (fun _ _ => .bad) (fun a0 a1 a2 a3 a4 => fun f _ => f a0 a1 a2 a3 a4) (fun _ n => n) (fun _ _ _ => fun _ _ => .bad) (fun _ _ => .bad) (fun _ _ _ => fun _ _ => .bad) (fun _ _ => .bad) (fun _ _ => fun _ _ => .bad) (fun _ _ => fun _ _ => .bad) (fun _ _ => .bad) (fun _ n => n) PUnit.unit (fun _ _ _ _ => PUnit.unit) v f n
noncomputable def k_rw (h : Hp X) (g : Nat) (f : List AV → FRes X) : FRes X := k_someF (k_tget 40 h.t g) fun b => AB.rec (motive := fun _ => (List AV → FRes X) → FRes X) (fun l f => f l) (fun _ _ => .bad) (fun _ _ => .bad) b f
noncomputable def k_del {β : Type} (h : Hp X) (g : Nat) (f : Hp X → β) : β := k_fT (k_tset 40 h.t g none) fun t => f ⟨t, h.n⟩
noncomputable def k_elems (h : Hp X) (z : Nat) (y : AV) (f : Nat → List AV → FRes X) : FRes X :=
  k_sliceF0 y (fun z' g off len _ => k_ifF (Nat.beq z' z) (k_someF (k_row h g) fun l => k_takeS .bad (Nat.mul len z) off l [] fun r => f len r)) (f 0 [])
noncomputable def k_and (a b : Bool) : Bool := Bool.rec (motive := fun _ => Bool) false b a
noncomputable def k_appA (h : Hp X) (z bytes : Nat) (x : AV) (m : Nat) (vs : List AV) : FRes X :=
  Bool.rec (motive := fun _ => FRes X)
    (k_sliceF x (fun z' g off len cap => k_ifF (k_and (Nat.beq z' z) (k_and (Nat.ble (Nat.mul (Nat.add len m) bytes) 140737488355328) (Nat.ble (Nat.add len m) 9223372036854775807)))
      (k_lit (Nat.add len m) fun n => Option.rec (motive := fun _ => FRes X)
        (k_rw h g fun l => Bool.rec (motive := fun _ => FRes X)
          (k_takeS .bad (Nat.mul len z) off l vs fun r => k_del h g fun h => k_push h (.rw r) fun p h => .ret (.slice z p 0 n none) h)
          (k_put h g (.rw (k_spl (Nat.add off (Nat.mul len z)) vs l)) fun h => .ret (.slice z g off n none) h)
          (Nat.ble (Nat.add off (Nat.mul n z)) (k_len l 0)))
        (fun k => Bool.rec (motive := fun _ => FRes X)
          (k_someF (k_row h g) fun l => k_takeS .bad (Nat.mul len z) off l vs fun r => k_push h (.rw r) fun p h => .ret (.slice z p 0 n none) h)
          (k_rw h g fun l => k_ifF (Nat.ble (Nat.add off (Nat.mul n z)) (k_len l 0)) (k_put h g (.rw (k_spl (Nat.add off (Nat.mul len z)) vs l)) fun h => .ret (.slice z g off n (some k)) h))
          (Nat.ble n k)) cap))
      (k_ifF (k_and (Nat.ble (Nat.mul m bytes) 140737488355328) (Nat.ble m 9223372036854775807)) (k_push h (.rw vs) fun p h => .ret (.slice z p 0 m none) h)))
    (k_sliceF x (fun z' g off len cap => .ret (.slice z' g off len cap) h) (.ret .snil h)) (Nat.beq m 0)
noncomputable def k_copyA (h : Hp X) (z : Nat) (x : AV) (m : Nat) (vs : List AV) : FRes X :=
  k_sliceF x (fun z' g off len _ => k_ifF (Nat.beq z' z) (k_lit (k_min m len) fun n => Bool.rec (motive := fun _ => FRes X)
    (k_rw h g fun l => k_ifF (Nat.ble (Nat.add off (Nat.mul n z)) (k_len l 0)) (k_put h g (.rw (k_spl off (k_take (Nat.mul n z) vs) l)) fun h => .ret (.int .i64 (.ofNat n)) h))
    (.ret (.int .i64 (.ofNat 0)) h) (Nat.beq n 0))) (.ret (.int .i64 (.ofNat 0)) h)
noncomputable def k_strF (v : AV) (f : List UInt8 → FRes X) : FRes X := AV.rec (motive_1 := fun _ => (List UInt8 → FRes X) → FRes X) (motive_2 := fun _ => PUnit) (fun _ _ => fun _ => .bad) (fun _ => fun _ => .bad) (fun a0 => fun f => f a0) (fun _ _ => fun _ => .bad) (fun _ => .bad) (fun _ _ _ _ _ => fun _ => .bad) (fun _ => .bad) (fun _ _ _ => fun _ => .bad) (fun _ => .bad) (fun _ _ _ => fun _ => .bad) (fun _ => .bad) (fun _ _ => fun _ => .bad) (fun _ _ => fun _ => .bad) (fun _ => .bad) (fun _ => .bad) PUnit.unit (fun _ _ _ _ => PUnit.unit) v f
noncomputable def k_ef (o : Ef) (e : En) (t : List AV) (h : Hp X) : FRes X := Ef.rec (motive := fun _ => En → List AV → Hp X → FRes X)
  (fun cs _ _ h => k_push h (.rw cs) fun n h => .ret (.ptr n 0) h)
  (fun x e t h => k_someF (k_cells (k_od x e t)) fun l => k_ifF (k_all l) (k_push h (.rw l) fun n h => .ret (.ptr n 0) h))
  (fun z len zero ps e t h => k_someF (fillA (rep zero len) (k_parts ps e t)) fun l => k_ifF (Bool.rec (motive := fun _ => Bool) false (Bool.rec (motive := fun _ => Bool) false (Nat.ble len maxLen) (Nat.beq (k_len l 0) (Nat.mul len z))) (k_all l)) (k_push h (.rw l) fun n h => .ret (.slice z n 0 len (some len)) h))
  (fun n a x e t h => k_ptrF (k_od a e t) fun g off => k_someF (k_cells (k_od x e t)) fun vs => k_ifF (Bool.rec (motive := fun _ => Bool) false (Nat.beq (k_len vs 0) n) (k_all vs))
    (k_someF (k_tget 40 h.t g) fun b => AB.rec (motive := fun _ => FRes X) (fun l => k_ifF (Nat.ble (Nat.add off n) (k_len l 0)) (k_put h g (.rw (k_spl off vs l)) fun h => .ret .bot h)) (fun _ => .bad) (fun _ => .bad) b))
  (fun z b x y e t h => k_elems h z (k_od y e t) fun m vs => k_appA h z b (k_od x e t) m vs)
  (fun z b zero x n e t h => k_done ((Ef.appz z b zero (.const (k_od x e t)) (.const (k_od n e t))).ev [] [] h))
  (fun z x y e t h => k_elems h z (k_od y e t) fun m vs => k_copyA h z (k_od x e t) m vs)
  (fun z zero x e t h => k_done ((Ef.clear z zero (.const (k_od x e t))).ev [] [] h))
  (fun z b zero l c e t h => k_someF (k_nOf (k_od l e t)) fun n => k_someF (k_nOf (k_od c e t)) fun k => k_ifF (k_and (Nat.ble n k) (k_and (Nat.ble (Nat.mul b k) 140737488355328) (Nat.ble k 9223372036854775807))) (k_rep zero k fun l => k_push h (.rw l) fun p h => .ret (.slice z p 0 n (some k)) h))
  (fun x e t h => k_strF (k_od x e t) fun s => k_lit (k_len s 0) fun n => k_ifF (Nat.ble n 9223372036854775807) (k_mapB s fun l => k_push h (.rw l) fun p h => .ret (.slice 1 p 0 n none) h))
  (fun x e t h => k_done ((Ef.mark (.const (k_od x e t))).ev [] [] h)) o e t h
noncomputable def k_func (v : AV) (f : Nat → List AV → FRes X) : FRes X := AV.rec (motive_1 := fun _ => (Nat → List AV → FRes X) → FRes X) (motive_2 := fun _ => PUnit) (fun _ _ => fun _ => .bad) (fun _ => fun _ => .bad) (fun _ => fun _ => .bad) (fun _ _ => fun _ => .bad) (fun _ => .bad) (fun _ _ _ _ _ => fun _ => .bad) (fun _ => .bad) (fun a0 a1 _ => fun f => f a0 a1) (fun _ => .bad) (fun _ _ _ => fun _ => .bad) (fun _ => .bad) (fun _ _ => fun _ => .bad) (fun _ _ => fun _ => .bad) (fun _ => .bad) (fun _ => .bad) PUnit.unit (fun _ _ _ _ => PUnit.unit) v f
noncomputable def k_ifc (v : AV) (f : Nat → AV → FRes X) : FRes X := AV.rec (motive_1 := fun _ => (Nat → AV → FRes X) → FRes X) (motive_2 := fun _ => PUnit) (fun _ _ => fun _ => .bad) (fun _ => fun _ => .bad) (fun _ => fun _ => .bad) (fun _ _ => fun _ => .bad) (fun _ => .bad) (fun _ _ _ _ _ => fun _ => .bad) (fun _ => .bad) (fun _ _ _ => fun _ => .bad) (fun _ => .bad) (fun a0 a1 _ => fun f => f a0 a1) (fun _ => .bad) (fun _ _ => fun _ => .bad) (fun _ _ => fun _ => .bad) (fun _ => .bad) (fun _ => .bad) PUnit.unit (fun _ _ _ _ => PUnit.unit) v f
noncomputable def k_op1 (o : Op1) (D : Dp X) (e : En) (t : List AV) (h : Hp X) : FRes X := Op1.rec (motive := fun _ => Dp X → En → List AV → Hp X → FRes X)
  (fun m _ e t h => k_doneV h (k_mv m e t h))
  (fun f _ e t h => k_ef f e t h)
  (fun f xs D e t h => k_ods xs e t fun l => D f l h)
  (fun f xs D e t h => k_func (k_od f e t) fun g cs => k_ods xs e t fun l => D g (k_app l cs) h)
  (fun x _ e t h => k_ifc (k_od x e t) fun ty v => .panic (.iface ty v) h) o D e t h
noncomputable def k_step (x : FRes X) (d : Ds) (ih : Dp X → En → List AV → Hp X → R X) (D : Dp X) (e : En) (t : List AV) : R X := FRes.rec (motive := fun _ => Ds → (Dp X → En → List AV → Hp X → R X) → Dp X → En → List AV → R X)
  (fun v h d ih D e t => Ds.rec (motive := fun _ => AV → Hp X → (Dp X → En → List AV → Hp X → R X) → Dp X → En → List AV → R X)
    (fun _ h ih D e t => ih D e t h) (fun i v h ih D e t => k_set t i v fun t => ih D e t h) (fun k v h ih D e t => ih D ((k, v) :: e) t h) d v h ih D e t)
  (fun v h _ _ _ _ _ => .panic v h) (fun _ _ _ _ _ => .bad) x d ih D e t
noncomputable def k_boolR {β : Type} (v : AV) (b : β) (f : Bool → β) : β := AV.rec (motive_1 := fun _ => β → (Bool → β) → β) (motive_2 := fun _ => PUnit) (fun _ _ => fun b _ => b) (fun a0 => fun _ f => f a0) (fun _ => fun b _ => b) (fun _ _ => fun b _ => b) (fun b _ => b) (fun _ _ _ _ _ => fun b _ => b) (fun b _ => b) (fun _ _ _ => fun b _ => b) (fun b _ => b) (fun _ _ _ => fun b _ => b) (fun b _ => b) (fun _ _ => fun b _ => b) (fun _ _ => fun b _ => b) (fun b _ => b) (fun b _ => b) PUnit.unit (fun _ _ _ _ => PUnit.unit) v b f
noncomputable def k_beq (a b : Bool) : Bool := Bool.rec (motive := fun _ => Bool → Bool) (fun b => k_not b) (fun b => b) a b
noncomputable def k_rg (r : List St1) (D : Dp X) (e : En) (t : List AV) (h : Hp X) : R X := List.rec (motive := fun _ => Dp X → En → List AV → Hp X → R X) (fun _ _ t h => .norm t h)
  (fun s _ ih D e t h => St1.rec (motive := fun _ => (Dp X → En → List AV → Hp X → R X) → Dp X → En → List AV → Hp X → R X)
    (fun g d o ih D e t h => Option.rec (motive := fun _ => Ds → Op1 → (Dp X → En → List AV → Hp X → R X) → Dp X → En → List AV → Hp X → R X)
      (fun d o ih D e t h => k_step (k_op1 o D e t h) d ih D e t)
      (fun jw d o ih D e t h => k_boolR (k_od jw.1 e t) .bad fun b => Bool.rec (motive := fun _ => R X) (k_step (.ret .bot h) d ih D e t) (k_step (k_op1 o D e t h) d ih D e t) (k_beq b jw.2)) g d o ih D e t h) s ih D e t h) r D e t h
noncomputable def k_seq (x : R X) (k : List AV → Hp X → R X) : R X := R.rec (motive := fun _ => (List AV → Hp X → R X) → R X) (fun t h k => k t h) (fun n t h _ => .brk n t h) (fun t h _ => .ret t h) (fun v h _ => .panic v h) (fun _ => .bad) x k
noncomputable def k_block (id : Nat) (x : R X) : R X := R.rec (motive := fun _ => Nat → R X) (fun t h _ => .norm t h) (fun n t h id => Bool.rec (motive := fun _ => R X) (.brk n t h) (.norm t h) (Nat.beq n id)) (fun t h _ => .ret t h) (fun v h _ => .panic v h) (fun _ => .bad) x id
noncomputable def k_loop (f : List AV → Hp X → R X) (n : Nat) : List AV → Hp X → R X :=
  Nat.rec (motive := fun _ => (List AV → Hp X → R X) → List AV → Hp X → R X) (fun _ _ _ => .bad) (fun _ ih f t h => k_seq (f t h) (ih f)) n f
noncomputable def k_dr (r : Dr) (D : Dp X) (t : List AV) (h : Hp X) : R X := List.rec (motive := fun _ => Dp X → List (Pa X) → En → List AV → Hp X → R X) (fun _ _ _ t h => .norm t h)
  (fun s _ ih D past e t h => k_boolR (Option.rec (motive := fun _ => En → List AV → AV) (fun _ _ => .bool true) (fun jw e t => k_boolR (k_od jw.1 e t) .bot fun b => .bool (k_beq b jw.2)) s.1.g e t) .bad fun b => Bool.rec (motive := fun _ => R X)
    (k_step (.ret .bot h) s.1.d (fun D => ih D (k_app past [.skip])) D e t)
    (FRes.rec (motive := fun _ => R X) (fun v h' => Option.rec (motive := fun _ => R X) .bad (fun pa => Bool.rec (motive := fun _ => R X) .bad (k_step (.ret v h') s.1.d (fun D => ih D (k_app past [pa])) D e t) (chkAll h' past s.2)) (paOf s.1.o e t h v h')) (fun _ _ => .bad) .bad (k_op1 s.1.o D e t h)) b) r D [] [] t h
noncomputable def k_bc (b : BC) (D : Dp X) (N : Nat) (t : List AV) (h : Hp X) : R X :=
  BC.rec (motive := fun _ => Dp X → Nat → List AV → Hp X → R X) (fun _ _ t h => .norm t h) (fun r D _ t h => k_rg r D [] t h) (fun r D _ t h => k_dr r D t h) (fun _ _ fa fb D N t h => k_seq (fa D N t h) (fb D N)) (fun x _ _ fa fb D N t h => k_boolR (k_od x [] t) .bad fun c => Bool.rec (motive := fun _ => R X) (fb D N t h) (fa D N t h) c)
    (fun id _ f D N t h => k_block id (f D N t h)) (fun _ f D N t h => k_loop (f D N) N t h) (fun id _ _ t h => .brk id t h) (fun _ _ t h => .ret t h) b D N t h
noncomputable def k_rs (r : Rs) (t : List AV) (h : Hp X) : Option AV := Rs.rec (motive := fun _ => List AV → Hp X → Option AV) (fun x t _ => k_fv (k_od x [] t) some) (fun x t h => k_mv (.ld1 x) [] t h) (fun n x t h => k_mv (.ldn n x) [] t h) r t h
noncomputable def k_res (rs : List Rs) (t : List AV) (h : Hp X) : Option (List AV) := List.rec (motive := fun _ => List AV → Hp X → Option (List AV)) (fun _ _ => some []) (fun r _ ih t h => k_some (k_rs r t h) fun v => k_some (ih t h) fun l => some (v :: l)) rs t h
noncomputable def k_pack (l : List AV) : AV := List.rec (motive := fun _ => AV) (.tup []) (fun v l _ => List.rec (motive := fun _ => AV → AV) (fun v => v) (fun x l _ v => .tup (v :: x :: l)) l v) l
noncomputable def k_fin (rs : List Rs) (x : R X) : FRes X := R.rec (motive := fun _ => List Rs → FRes X) (fun t h rs => k_someF (k_res rs t h) fun l => .ret (k_pack l) h) (fun _ _ _ _ => .bad) (fun t h rs => k_someF (k_res rs t h) fun l => .ret (k_pack l) h) (fun v h _ => .panic v h) (fun _ => .bad) x rs
/-- a function's own places as it is entered -/
noncomputable def k_enter {β : Type} (keep : List Nat) (args : List AV) (f : List AV → β) : β := List.rec (motive := fun _ => List AV → (List AV → β) → β) (fun _ f => f []) (fun d _ ih args f => k_fv (k_get args d) fun v => ih args fun l => f (v :: l)) keep args f
noncomputable def k_bf (N : Nat) (f : BF) (D : Dp X) (args : List AV) (h : Hp X) : FRes X := BF.rec (motive := fun _ => Nat → Dp X → List AV → Hp X → FRes X)
  (fun nt keep body res N D args h => k_ifF (Nat.ble (k_len args 0) nt) (k_enter keep args fun t => k_fin res (k_bc body D N t h))) f N D args h
end
end Am
end Go.Proofs.Ytmfobcejnkakpaa
