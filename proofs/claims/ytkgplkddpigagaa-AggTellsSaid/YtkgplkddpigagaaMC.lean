/- The plain machine: the same, in a form that the kernel runs fast: every way of a case is a closed term, every number is brought to a literal as it is made. The plain machine: its fast form is what it stands for: numbers, places, operations. The plain machine: its fast form is what it stands for: places, rows, operations that write nothing. The plain machine: its fast form is what it stands for: the heap, operations that write, regions, code, functions. The plain machine: a run in pieces: what a piece of code makes of a state, told by rules; behind each piece what is not wanted of the heap may  -/
import Derived.Test.YtkgplkddpigagaaMB
import Derived.Recover
set_option linter.unusedVariables false
set_option linter.unusedSimpArgs false
namespace Go.Proofs.Ytkgplkddpigagaa
namespace Am
open Go.RowKit
set_option maxRecDepth 10000
noncomputable def k_int {β : Type} (v : AV) (f : IntKind → Int → Option β) : Option β := AV.rec (motive_1 := fun _ => (IntKind → Int → Option β) → Option β) (motive_2 := fun _ => PUnit) (fun a0 a1 => fun f => f a0 a1) (fun _ => fun _ => none) (fun _ => fun _ => none) (fun _ _ => fun _ => none) (fun _ => none) (fun _ _ _ _ _ => fun _ => none) (fun _ => none) (fun _ _ _ => fun _ => none) (fun _ => none) (fun _ _ _ => fun _ => none) (fun _ => none) (fun _ _ => fun _ => none) (fun _ _ => fun _ => none) (fun _ => none) (fun _ => none) (fun _ _ _ => fun _ => none) PUnit.unit (fun _ _ _ _ => PUnit.unit) v f
theorem k_int_eq {β : Type} (v : AV) (f : IntKind → Int → Option β) : k_int v f = v.onInt f := by cases v <;> rfl
noncomputable def k_bool {β : Type} (v : AV) (f : Bool → Option β) : Option β := AV.rec (motive_1 := fun _ => (Bool → Option β) → Option β) (motive_2 := fun _ => PUnit) (fun _ _ => fun _ => none) (fun a0 => fun f => f a0) (fun _ => fun _ => none) (fun _ _ => fun _ => none) (fun _ => none) (fun _ _ _ _ _ => fun _ => none) (fun _ => none) (fun _ _ _ => fun _ => none) (fun _ => none) (fun _ _ _ => fun _ => none) (fun _ => none) (fun _ _ => fun _ => none) (fun _ _ => fun _ => none) (fun _ => none) (fun _ => none) (fun _ _ _ => fun _ => none) PUnit.unit (fun _ _ _ _ => PUnit.unit) v f
theorem k_bool_eq {β : Type} (v : AV) (f : Bool → Option β) : k_bool v f = v.onBool f := by cases v <;> rfl
noncomputable def k_str {β : Type} (v : AV) (f : List UInt8 → Option β) : Option β := AV.rec (motive_1 := fun _ => (List UInt8 → Option β) → Option β) (motive_2 := fun _ => PUnit) (fun _ _ => fun _ => none) (fun _ => fun _ => none) (fun a0 => fun f => f a0) (fun _ _ => fun _ => none) (fun _ => none) (fun _ _ _ _ _ => fun _ => none) (fun _ => none) (fun _ _ _ => fun _ => none) (fun _ => none) (fun _ _ _ => fun _ => none) (fun _ => none) (fun _ _ => fun _ => none) (fun _ _ => fun _ => none) (fun _ => none) (fun _ => none) (fun _ _ _ => fun _ => none) PUnit.unit (fun _ _ _ _ => PUnit.unit) v f
theorem k_str_eq {β : Type} (v : AV) (f : List UInt8 → Option β) : k_str v f = v.onStr f := by cases v <;> rfl
noncomputable def k_ptr {β : Type} (v : AV) (f : Nat → Nat → Option β) : Option β := AV.rec (motive_1 := fun _ => (Nat → Nat → Option β) → Option β) (motive_2 := fun _ => PUnit) (fun _ _ => fun _ => none) (fun _ => fun _ => none) (fun _ => fun _ => none) (fun a0 a1 => fun f => f a0 a1) (fun _ => none) (fun _ _ _ _ _ => fun _ => none) (fun _ => none) (fun _ _ _ => fun _ => none) (fun _ => none) (fun _ _ _ => fun _ => none) (fun _ => none) (fun _ _ => fun _ => none) (fun _ _ => fun _ => none) (fun _ => none) (fun _ => none) (fun _ _ _ => fun _ => none) PUnit.unit (fun _ _ _ _ => PUnit.unit) v f
theorem k_ptr_eq {β : Type} (v : AV) (f : Nat → Nat → Option β) : k_ptr v f = v.onPtr f := by cases v <;> rfl
noncomputable def k_agg {β : Type} (v : AV) (f : List AV → Option β) : Option β := AV.rec (motive_1 := fun _ => (List AV → Option β) → Option β) (motive_2 := fun _ => PUnit) (fun _ _ => fun _ => none) (fun _ => fun _ => none) (fun _ => fun _ => none) (fun _ _ => fun _ => none) (fun _ => none) (fun _ _ _ _ _ => fun _ => none) (fun _ => none) (fun _ _ _ => fun _ => none) (fun _ => none) (fun _ _ _ => fun _ => none) (fun _ => none) (fun a0 _ => fun f => f a0) (fun _ _ => fun _ => none) (fun _ => none) (fun _ => none) (fun _ _ _ => fun _ => none) PUnit.unit (fun _ _ _ _ => PUnit.unit) v f
theorem k_agg_eq {β : Type} (v : AV) (f : List AV → Option β) : k_agg v f = v.onAgg f := by cases v <;> rfl
noncomputable def k_tup {β : Type} (v : AV) (f : List AV → Option β) : Option β := AV.rec (motive_1 := fun _ => (List AV → Option β) → Option β) (motive_2 := fun _ => PUnit) (fun _ _ => fun _ => none) (fun _ => fun _ => none) (fun _ => fun _ => none) (fun _ _ => fun _ => none) (fun _ => none) (fun _ _ _ _ _ => fun _ => none) (fun _ => none) (fun _ _ _ => fun _ => none) (fun _ => none) (fun _ _ _ => fun _ => none) (fun _ => none) (fun _ _ => fun _ => none) (fun a0 _ => fun f => f a0) (fun _ => none) (fun _ => none) (fun _ _ _ => fun _ => none) PUnit.unit (fun _ _ _ _ => PUnit.unit) v f
theorem k_tup_eq {β : Type} (v : AV) (f : List AV → Option β) : k_tup v f = v.onTup f := by cases v <;> rfl
noncomputable def k_kind (k : IntKind) : Nat := IntKind.rec (motive := fun _ => Nat) 0 1 2 3 4 5 6 7 k
noncomputable def k_pw (k : IntKind) : Nat := IntKind.rec (motive := fun _ => Nat) 256 65536 4294967296 18446744073709551616 256 65536 4294967296 18446744073709551616 k
noncomputable def k_bits (k : IntKind) : Nat := IntKind.rec (motive := fun _ => Nat) 8 16 32 64 8 16 32 64 k
noncomputable def k_lit {β : Type} (n : Nat) (f : Nat → β) : β := Nat.rec (motive := fun _ => (Nat → β) → β) (fun f => f 0) (fun m _ f => f (Nat.succ m)) n f
noncomputable def k_ilit {β : Type} (n : Int) (f : Int → β) : β := Int.rec (motive := fun _ => (Int → β) → β) (fun m f => k_lit m fun m => f (.ofNat m)) (fun m f => k_lit m fun m => f (.negSucc m)) n f
noncomputable def k_subNN (m n : Nat) : Int := Bool.rec (motive := fun _ => Int) (.negSucc (Nat.pred (Nat.sub n m))) (.ofNat (Nat.sub m n)) (Nat.ble n m)
noncomputable def k_add (a b : Int) : Int := Int.rec (motive := fun _ => Int → Int)
  (fun m b => Int.rec (motive := fun _ => Nat → Int) (fun n m => .ofNat (Nat.add m n)) (fun n m => k_subNN m (Nat.succ n)) b m)
  (fun m b => Int.rec (motive := fun _ => Nat → Int) (fun n m => k_subNN n (Nat.succ m)) (fun n m => .negSucc (Nat.succ (Nat.add m n))) b m) a b
noncomputable def k_neg (a : Int) : Int := Int.rec (motive := fun _ => Int) (fun m => Nat.rec (motive := fun _ => Int) (.ofNat 0) (fun k _ => .negSucc k) m) (fun m => .ofNat (Nat.succ m)) a
noncomputable def k_mul (a b : Int) : Int := Int.rec (motive := fun _ => Int → Int)
  (fun m b => Int.rec (motive := fun _ => Nat → Int) (fun n m => .ofNat (Nat.mul m n)) (fun n m => k_neg (.ofNat (Nat.mul m (Nat.succ n)))) b m)
  (fun m b => Int.rec (motive := fun _ => Nat → Int) (fun n m => k_neg (.ofNat (Nat.mul (Nat.succ m) n))) (fun n m => .ofNat (Nat.mul (Nat.succ m) (Nat.succ n))) b m) a b
noncomputable def k_lt (a b : Int) : Bool := Int.rec (motive := fun _ => Int → Bool)
  (fun m b => Int.rec (motive := fun _ => Nat → Bool) (fun n m => Nat.blt m n) (fun _ _ => false) b m)
  (fun m b => Int.rec (motive := fun _ => Nat → Bool) (fun _ _ => true) (fun n m => Nat.blt n m) b m) a b
noncomputable def k_eqi (a b : Int) : Bool := Int.rec (motive := fun _ => Int → Bool)
  (fun m b => Int.rec (motive := fun _ => Nat → Bool) (fun n m => Nat.beq m n) (fun _ _ => false) b m)
  (fun m b => Int.rec (motive := fun _ => Nat → Bool) (fun _ _ => false) (fun n m => Nat.beq n m) b m) a b
noncomputable def k_nat2 {β : Type} (f : Nat → Nat → β) (s : Int → Int → β) (a b : Int) : β := Int.rec (motive := fun _ => (Nat → Nat → β) → (Int → Int → β) → Int → β)
  (fun m f s b => Int.rec (motive := fun _ => (Nat → Nat → β) → (Int → Int → β) → Nat → β) (fun n f _ m => f m n) (fun n _ s m => s (.ofNat m) (.negSucc n)) b f s m)
  (fun m _ s b => s (.negSucc m) b) a f s b
noncomputable def k_wrU (w : Nat) (s : Int → Int) (n : Int) : Int := Int.rec (motive := fun _ => Nat → (Int → Int) → Int) (fun m w _ => .ofNat (Nat.mod m w)) (fun m _ s => s (.negSucc m)) n w s
noncomputable def k_wrI (w : Nat) (s : Int → Int) (n : Int) : Int := Int.rec (motive := fun _ => Nat → (Int → Int) → Int)
  (fun m w s => Bool.rec (motive := fun _ => Int) (s (.ofNat m)) (.ofNat m) (Nat.blt m w)) (fun m w s => Bool.rec (motive := fun _ => Int) (s (.negSucc m)) (.negSucc m) (Nat.blt m w)) n w s
noncomputable def k_wr (k : IntKind) (n : Int) : Int := IntKind.rec (motive := fun _ => Int → Int)
  (fun n => k_wrI 128 (wr .i8) n) (fun n => k_wrI 32768 (wr .i16) n) (fun n => k_wrI 2147483648 (wr .i32) n) (fun n => k_wrI 9223372036854775808 (wr .i64) n)
  (fun n => k_wrU 256 (wr .u8) n) (fun n => k_wrU 65536 (wr .u16) n) (fun n => k_wrU 4294967296 (wr .u32) n) (fun n => k_wrU 18446744073709551616 (wr .u64) n) k n
noncomputable def k_out (k : IntKind) (n : Int) : Option AV := k_ilit n fun n => some (.int k n)
noncomputable def k_outw (k : IntKind) (n : Int) : Option AV := k_ilit (k_wr k n) fun n => some (.int k n)
noncomputable def k_bool' (b : Bool) : Option AV := Bool.rec (motive := fun _ => Option AV) (some (.bool false)) (some (.bool true)) b
noncomputable def k_not (b : Bool) : Bool := Bool.rec (motive := fun _ => Bool) true false b
noncomputable def k_min (a b : Nat) : Nat := Bool.rec (motive := fun _ => Nat) b a (Nat.ble a b)
noncomputable def k_intOp (op : BinOp) (k : IntKind) (a b : Int) : Option AV := BinOp.rec (motive := fun _ => IntKind → Int → Int → Option AV)
  (fun k a b => k_outw k (k_add a b))
  (fun k a b => k_outw k (k_add a (k_neg b)))
  (fun k a b => k_outw k (k_mul a b))
  (fun k a b => k_nat2 (fun m n => Bool.rec (motive := fun _ => Option AV) (k_outw k (.ofNat (Nat.div m n))) none (Nat.beq n 0)) (fun a b => intOp .quo k a b) a b)
  (fun k a b => k_nat2 (fun m n => Bool.rec (motive := fun _ => Option AV) (k_out k (.ofNat (Nat.mod m n))) none (Nat.beq n 0)) (fun a b => intOp .rem k a b) a b)
  (fun k a b => k_nat2 (fun m n => k_outw k (.ofNat (Nat.land (Nat.mod m (k_pw k)) (Nat.mod n (k_pw k))))) (fun a b => intOp .and k a b) a b)
  (fun k a b => k_nat2 (fun m n => k_outw k (.ofNat (Nat.lor (Nat.mod m (k_pw k)) (Nat.mod n (k_pw k))))) (fun a b => intOp .or k a b) a b)
  (fun k a b => k_nat2 (fun m n => k_outw k (.ofNat (Nat.xor (Nat.mod m (k_pw k)) (Nat.mod n (k_pw k))))) (fun a b => intOp .xor k a b) a b)
  (fun k a b => k_nat2 (fun m n => k_outw k (.ofNat (Nat.mul m (Nat.pow 2 (k_min n (k_bits k)))))) (fun a b => intOp .shl k a b) a b)
  (fun k a b => k_nat2 (fun m n => k_out k (.ofNat (Nat.div m (Nat.pow 2 (k_min n (k_bits k)))))) (fun a b => intOp .shr k a b) a b)
  (fun k a b => intOp .andNot k a b)
  (fun _ a b => k_bool' (k_eqi a b))
  (fun _ a b => k_bool' (k_not (k_eqi a b)))
  (fun _ a b => k_bool' (k_lt a b))
  (fun _ a b => k_bool' (k_not (k_lt b a)))
  (fun _ a b => k_bool' (k_lt b a))
  (fun _ a b => k_bool' (k_not (k_lt a b))) op k a b
def k_byte (m : Nat) : UInt8 := ⟨⟨⟨Nat.mod m 256, Nat.mod_lt m (Nat.zero_lt_succ 255)⟩⟩⟩
def k_bn (b : UInt8) : Nat := b.toBitVec.toFin.val
noncomputable def k_len {α : Type} (l : List α) (a : Nat) : Nat := List.rec (motive := fun _ => Nat → Nat) (fun a => a) (fun _ _ ih a => k_lit a fun a => ih (Nat.succ a)) l a
noncomputable def k_if {β : Type} (c : Bool) (a : Option β) : Option β := Bool.rec (motive := fun _ => Option β → Option β) (fun _ => none) (fun a => a) c a
noncomputable def k_appS {α β : Type} (l r : List α) (f : List α → β) : β := List.rec (motive := fun _ => List α → (List α → β) → β) (fun r f => f r) (fun x _ ih r f => ih r fun l => f (x :: l)) l r f
noncomputable def k_strEq (a b : List UInt8) : Bool := List.rec (motive := fun _ => List UInt8 → Bool) (fun b => List.rec (motive := fun _ => Bool) true (fun _ _ _ => false) b)
  (fun x _ ih b => List.rec (motive := fun _ => Bool) false (fun y b _ => Bool.rec (motive := fun _ => Bool) false (ih b) (Nat.beq (k_bn x) (k_bn y))) b) a b
noncomputable def k_strLt (a b : List UInt8) : Bool := List.rec (motive := fun _ => List UInt8 → Bool) (fun b => List.rec (motive := fun _ => Bool) false (fun _ _ _ => true) b)
  (fun x _ ih b => List.rec (motive := fun _ => Bool) false (fun y b _ => Bool.rec (motive := fun _ => Bool) (Bool.rec (motive := fun _ => Bool) false (ih b) (Nat.beq (k_bn x) (k_bn y))) true (Nat.blt (k_bn x) (k_bn y))) b) a b
noncomputable def k_or (a b : Bool) : Bool := Bool.rec (motive := fun _ => Bool) b true a
noncomputable def k_strOp (op : BinOp) (a b : List UInt8) : Option AV := BinOp.rec (motive := fun _ => List UInt8 → List UInt8 → Option AV)
  (fun a b => k_if (Nat.ble (Nat.add (k_len a 0) (k_len b 0)) 8388608) (k_appS a b fun l => some (.str l)))
  (fun _ _ => none) (fun _ _ => none) (fun _ _ => none) (fun _ _ => none) (fun _ _ => none) (fun _ _ => none) (fun _ _ => none) (fun _ _ => none) (fun _ _ => none) (fun _ _ => none)
  (fun a b => k_bool' (k_strEq a b)) (fun a b => k_bool' (k_not (k_strEq a b)))
  (fun a b => k_bool' (k_strLt a b)) (fun a b => k_bool' (k_or (k_strLt a b) (k_strEq a b))) (fun a b => k_bool' (k_not (k_or (k_strLt a b) (k_strEq a b)))) (fun a b => k_bool' (k_not (k_strLt a b))) op a b
noncomputable def k_shift (op : BinOp) : Bool := BinOp.rec (motive := fun _ => Bool) false false false false false false false false true true false false false false false false false op
noncomputable def k_bin (op : BinOp) (q : Eq) (x y : AV) : Option AV := AV.rec (motive_1 := fun _ => BinOp → Eq → AV → Option AV) (motive_2 := fun _ => PUnit) (fun a0 a1 => fun op q y => k_int y fun k b => Bool.rec (motive := fun _ => Option AV) (Bool.rec (motive := fun _ => Option AV) none (k_intOp op a0 a1 b) (Nat.beq (k_kind a0) (k_kind k))) (k_intOp op a0 a1 b) (k_shift op)) (fun a0 => fun op q y => bin op q (.bool a0) y) (fun a0 => fun op q y => k_str y fun b => k_strOp op a0 b) (fun a0 a1 => fun op q y => bin op q (.ptr a0 a1) y) (fun op q y => bin op q (.nilp) y) (fun a0 a1 a2 a3 a4 => fun op q y => bin op q (.slice a0 a1 a2 a3 a4) y) (fun op q y => bin op q (.snil) y) (fun a0 a1 _ => fun op q y => bin op q (.func a0 a1) y) (fun op q y => bin op q (.nilf) y) (fun a0 a1 _ => fun op q y => bin op q (.iface a0 a1) y) (fun op q y => bin op q (.inil) y) (fun a0 _ => fun op q y => bin op q (.agg a0) y) (fun a0 _ => fun op q y => bin op q (.tup a0) y) (fun op q y => bin op q (.bot) y) (fun op q y => bin op q (.semp) y) (fun a0 a1 _ => fun op q y => bin op q (.meth a0 a1) y) PUnit.unit (fun _ _ _ _ => PUnit.unit) x op q y
noncomputable def k_get (l : List AV) (n : Nat) : AV := List.rec (motive := fun _ => Nat → AV) (fun _ => .bot) (fun v _ ih n => Nat.rec (motive := fun _ => AV) v (fun m _ => ih m) n) l n
noncomputable def k_set {β : Type} (l : List AV) (n : Nat) (v : AV) (f : List AV → β) : β := List.rec (motive := fun _ => Nat → AV → (List AV → β) → β) (fun _ _ f => f []) (fun x l ih n v f => Nat.rec (motive := fun _ => β) (f (v :: l)) (fun m _ => ih m v fun l => f (x :: l)) n) l n v f
noncomputable def k_look (d : Nat) (e : En) : AV := List.rec (motive := fun _ => Nat → AV) (fun _ => .bot) (fun kv _ ih d => Bool.rec (motive := fun _ => AV) (ih d) kv.2 (Nat.beq kv.1 d)) e d
noncomputable def k_od (x : Od) (e : En) (t : List AV) : AV := Od.rec (motive := fun _ => En → List AV → AV) (fun i _ t => k_get t i) (fun d e _ => k_look d e) (fun v _ _ => v) x e t
noncomputable def k_oev (x : Option Od) (e : En) (t : List AV) : Option AV := Option.rec (motive := fun _ => En → List AV → Option AV) (fun _ _ => none) (fun o e t => some (k_od o e t)) x e t
noncomputable def k_some {α β : Type} (x : Option α) (f : α → Option β) : Option β := Option.rec (motive := fun _ => (α → Option β) → Option β) (fun _ => none) (fun a f => f a) x f
noncomputable def k_row {X : Type} (h : Hp X) (g : Nat) : Option (List AV) := Option.rec (motive := fun _ => Option (List AV)) none (fun b => AB.rec (motive := fun _ => Option (List AV)) some some (fun _ => none) b) (h.get g)
noncomputable def k_getN (l : List AV) (n : Nat) : Option AV := List.rec (motive := fun _ => Nat → Option AV) (fun _ => none) (fun v _ ih n => Nat.rec (motive := fun _ => Option AV) (some v) (fun m _ => ih m) n) l n
noncomputable def k_nOf (v : AV) : Option Nat := k_int v fun _ n => Int.rec (motive := fun _ => Option Nat) (fun m => some m) (fun _ => none) n
noncomputable def k_slice {β : Type} (v : AV) (f : Nat → Nat → Nat → Nat → Option Nat → Option β) (n : Option β) : Option β := AV.rec (motive_1 := fun _ => (Nat → Nat → Nat → Nat → Option Nat → Option β) → Option β → Option β) (motive_2 := fun _ => PUnit) (fun _ _ => fun _ _ => none) (fun _ => fun _ _ => none) (fun _ => fun _ _ => none) (fun _ _ => fun _ _ => none) (fun _ _ => none) (fun a0 a1 a2 a3 a4 => fun f _ => f a0 a1 a2 a3 a4) (fun _ n => n) (fun _ _ _ => fun _ _ => none) (fun _ _ => none) (fun _ _ _ => fun _ _ => none) (fun _ _ => none) (fun _ _ => fun _ _ => none) (fun _ _ => fun _ _ => none) (fun _ _ => none) (fun _ _ => none) (fun _ _ _ => fun _ _ => none) PUnit.unit (fun _ _ _ _ => PUnit.unit) v f n
noncomputable def k_semp {β : Type} (v : AV) (a b : β) : β := AV.rec (motive_1 := fun _ => β → β → β) (motive_2 := fun _ => PUnit) (fun _ _ => fun _ b => b) (fun _ => fun _ b => b) (fun _ => fun _ b => b) (fun _ _ => fun _ b => b) (fun _ b => b) (fun _ _ _ _ _ => fun _ b => b) (fun _ b => b) (fun _ _ _ => fun _ b => b) (fun _ b => b) (fun _ _ _ => fun _ b => b) (fun _ b => b) (fun _ _ => fun _ b => b) (fun _ _ => fun _ b => b) (fun _ b => b) (fun a _ => a) (fun _ _ _ => fun _ b => b) PUnit.unit (fun _ _ _ _ => PUnit.unit) v a b
theorem k_semp_eq {β : Type} (v : AV) (a b : β) : k_semp v a b = match v with | .semp => a | _ => b := by cases v <;> rfl
noncomputable def k_slice0 {β : Type} (v : AV) (f : Nat → Nat → Nat → Nat → Option Nat → Option β) (n : Option β) : Option β := AV.rec (motive_1 := fun _ => (Nat → Nat → Nat → Nat → Option Nat → Option β) → Option β → Option β) (motive_2 := fun _ => PUnit) (fun _ _ => fun _ _ => none) (fun _ => fun _ _ => none) (fun _ => fun _ _ => none) (fun _ _ => fun _ _ => none) (fun _ _ => none) (fun a0 a1 a2 a3 a4 => fun f _ => f a0 a1 a2 a3 a4) (fun _ n => n) (fun _ _ _ => fun _ _ => none) (fun _ _ => none) (fun _ _ _ => fun _ _ => none) (fun _ _ => none) (fun _ _ => fun _ _ => none) (fun _ _ => fun _ _ => none) (fun _ _ => none) (fun _ n => n) (fun _ _ _ => fun _ _ => none) PUnit.unit (fun _ _ _ _ => PUnit.unit) v f n
noncomputable def k_fv {β : Type} (v : AV) (f : AV → β) : β := AV.rec (motive_1 := fun _ => (AV → β) → β) (motive_2 := fun _ => PUnit) (fun a0 a1 => fun f => f (.int a0 a1)) (fun a0 => fun f => f (.bool a0)) (fun a0 => fun f => f (.str a0)) (fun a0 a1 => fun f => f (.ptr a0 a1)) (fun f => f (.nilp)) (fun a0 a1 a2 a3 a4 => fun f => f (.slice a0 a1 a2 a3 a4)) (fun f => f (.snil)) (fun a0 a1 _ => fun f => f (.func a0 a1)) (fun f => f (.nilf)) (fun a0 a1 _ => fun f => f (.iface a0 a1)) (fun f => f (.inil)) (fun a0 _ => fun f => f (.agg a0)) (fun a0 _ => fun f => f (.tup a0)) (fun f => f (.bot)) (fun f => f (.semp)) (fun a0 a1 _ => fun f => f (.meth a0 a1)) PUnit.unit (fun _ _ _ _ => PUnit.unit) v f
noncomputable def k_fvd {β : Type} (v : AV) (f : AV → β) : β := AV.rec (motive_1 := fun _ => (AV → β) → β) (motive_2 := fun _ => PUnit) (fun a0 a1 => fun f => k_ilit a1 fun n => f (.int a0 n)) (fun a0 => fun f => f (.bool a0)) (fun a0 => fun f => f (.str a0)) (fun a0 a1 => fun f => k_lit a0 fun g => k_lit a1 fun o => f (.ptr g o)) (fun f => f (.nilp)) (fun a0 a1 a2 a3 a4 => fun f => k_lit a1 fun g => k_lit a2 fun o => k_lit a3 fun n => f (.slice a0 g o n a4)) (fun f => f (.snil)) (fun a0 a1 _ => fun f => f (.func a0 a1)) (fun f => f (.nilf)) (fun a0 a1 _ => fun f => f (.iface a0 a1)) (fun f => f (.inil)) (fun a0 _ => fun f => f (.agg a0)) (fun a0 _ => fun f => f (.tup a0)) (fun f => f (.bot)) (fun f => f (.semp)) (fun a0 a1 _ => fun f => f (.meth a0 a1)) PUnit.unit (fun _ _ _ _ => PUnit.unit) v f
noncomputable def k_ods {β : Type} (xs : List Od) (e : En) (t : List AV) (f : List AV → β) : β := List.rec (motive := fun _ => En → List AV → (List AV → β) → β) (fun _ _ f => f []) (fun x _ ih e t f => k_fv (k_od x e t) fun v => ih e t fun l => f (v :: l)) xs e t f
noncomputable def k_parts (xs : List (Nat × Nat × Od)) (e : En) (t : List AV) : List (Nat × Nat × AV) := List.rec (motive := fun _ => En → List AV → List (Nat × Nat × AV)) (fun _ _ => []) (fun p _ ih e t => (p.1, p.2.1, k_od p.2.2 e t) :: ih e t) xs e t
noncomputable def k_capB {X : Type} (h : Hp X) (z g off len : Nat) (cap : Option Nat) (n : Nat) : Bool :=
  Bool.rec (motive := fun _ => Bool) (Option.rec (motive := fun _ => Bool) (Option.rec (motive := fun _ => Bool) false (fun l => Nat.ble (Nat.add off (Nat.mul n z)) (k_len l 0)) (k_row h g)) (fun k => Nat.ble n k) cap) true (Nat.ble n len)
noncomputable def k_take {α : Type} (n : Nat) (l : List α) : List α := List.rec (motive := fun _ => Nat → List α) (fun _ => []) (fun x _ ih n => Nat.rec (motive := fun _ => List α) [] (fun m _ => x :: ih m) n) l n
noncomputable def k_drop {α : Type} (n : Nat) (l : List α) : List α := List.rec (motive := fun _ => Nat → List α) (fun _ => []) (fun x l ih n => Nat.rec (motive := fun _ => List α) (x :: l) (fun m _ => ih m) n) l n
noncomputable def k_app {α : Type} (l r : List α) : List α := List.rec (motive := fun _ => List α → List α) (fun r => r) (fun x _ ih r => x :: ih r) l r
noncomputable def k_takeN (n off : Nat) (l : List AV) : Option (List AV) := k_if (Nat.ble (Nat.add off n) (k_len l 0)) (some (k_take n (k_drop off l)))
noncomputable def k_takeS {β : Type} (d : β) (n off : Nat) (l vs : List AV) (f : List AV → β) : β := List.rec (motive := fun _ => Nat → Nat → List AV → β → (List AV → β) → β)
  (fun off n vs d f => Bool.rec (motive := fun _ => β) d (f vs) (Nat.beq (Nat.add off n) 0))
  (fun x _ ih off n vs d f => Nat.rec (motive := fun _ => β) (Nat.rec (motive := fun _ => β) (f vs) (fun m _ => ih 0 m vs d fun r => f (x :: r)) n) (fun m _ => ih m n vs d f) off) l off n vs d f
noncomputable def k_u8 {β : Type} (v : AV) (d : β) (f : Int → β) : β := AV.rec (motive_1 := fun _ => β → (Int → β) → β) (motive_2 := fun _ => PUnit) (fun a0 a1 => fun d f => IntKind.rec (motive := fun _ => β → (Int → β) → Int → β) (fun d _ _ => d) (fun d _ _ => d) (fun d _ _ => d) (fun d _ _ => d) (fun _ f n => f n) (fun d _ _ => d) (fun d _ _ => d) (fun d _ _ => d) a0 d f a1) (fun _ => fun d _ => d) (fun _ => fun d _ => d) (fun _ _ => fun d _ => d) (fun d _ => d) (fun _ _ _ _ _ => fun d _ => d) (fun d _ => d) (fun _ _ _ => fun d _ => d) (fun d _ => d) (fun _ _ _ => fun d _ => d) (fun d _ => d) (fun _ _ => fun d _ => d) (fun _ _ => fun d _ => d) (fun d _ => d) (fun d _ => d) (fun _ _ _ => fun d _ => d) PUnit.unit (fun _ _ _ _ => PUnit.unit) v d f
noncomputable def k_bytes {β : Type} (l : List AV) (d : β) (f : List UInt8 → β) : β := List.rec (motive := fun _ => β → (List UInt8 → β) → β) (fun _ f => f [])
  (fun v _ ih d f => k_u8 v d fun n => Int.rec (motive := fun _ => β) (fun m => ih d fun s => f (k_byte m :: s)) (fun _ => ih d fun s => f (k_byte 0 :: s)) n) l d f
noncomputable def k_mapB {β : Type} (l : List UInt8) (f : List AV → β) : β := List.rec (motive := fun _ => (List AV → β) → β) (fun f => f []) (fun b _ ih f => k_lit (k_bn b) fun n => ih fun l => f (.int .u8 (.ofNat n) :: l)) l f
noncomputable def k_rep {β : Type} (l : List AV) (n : Nat) (f : List AV → β) : β := Nat.rec (motive := fun _ => (List AV → β) → β) (fun f => f []) (fun _ ih f => ih fun r => k_appS l r f) n f
noncomputable def k_getB (l : List UInt8) (n : Nat) : Option UInt8 := List.rec (motive := fun _ => Nat → Option UInt8) (fun _ => none) (fun v _ ih n => Nat.rec (motive := fun _ => Option UInt8) (some v) (fun m _ => ih m) n) l n
noncomputable def k_spl (off : Nat) (vs l : List AV) : List AV := List.rec (motive := fun _ => Nat → List AV → List AV) (fun _ vs => vs) (fun x l ih off vs => Nat.rec (motive := fun _ => List AV) (k_app vs (k_drop (k_len vs 0) (x :: l))) (fun m _ => x :: ih m vs) off) l off vs
noncomputable def k_cells (v : AV) : Option (List AV) := AV.rec (motive_1 := fun _ => Option (List AV)) (motive_2 := fun _ => PUnit) (fun a0 a1 => some [.int a0 a1]) (fun a0 => some [.bool a0]) (fun a0 => some [.str a0]) (fun a0 a1 => some [.ptr a0 a1]) (some [.nilp]) (fun a0 a1 a2 a3 a4 => some [.slice a0 a1 a2 a3 a4]) (some [.snil]) (fun a0 a1 _ => some [.func a0 a1]) (some [.nilf]) (fun a0 a1 _ => some [.iface a0 a1]) (some [.inil]) (fun a0 _ => some a0) (fun _ _ => none) (none) (some [.semp]) (fun a0 a1 _ => some [.meth a0 a1]) PUnit.unit (fun _ _ _ _ => PUnit.unit) v
noncomputable def k_one (v : AV) : Bool := AV.rec (motive_1 := fun _ => Bool) (motive_2 := fun _ => PUnit) (fun _ _ => true) (fun _ => true) (fun _ => true) (fun _ _ => true) (true) (fun _ _ _ _ _ => true) (true) (fun _ _ _ => true) (true) (fun _ _ _ => true) (true) (fun a0 _ => false) (fun a0 _ => false) (false) (true) (fun _ _ _ => true) PUnit.unit (fun _ _ _ _ => PUnit.unit) v
noncomputable def k_all (l : List AV) : Bool := List.rec (motive := fun _ => Bool) true (fun x _ ih => Bool.rec (motive := fun _ => Bool) false ih (k_one x)) l
noncomputable def k_hi (hi : Option AV) (len : Nat) (ub : Nat → Bool) : Option Nat := Option.rec (motive := fun _ => Nat → (Nat → Bool) → Option Nat) (fun len _ => some len) (fun v _ ub => k_some (k_nOf v) fun n => k_if (ub n) (some n)) hi len ub
noncomputable def k_lo (lo : Option AV) (hh : Nat) : Option Nat := Option.rec (motive := fun _ => Nat → Option Nat) (fun _ => some 0) (fun v hh => k_some (k_nOf v) fun n => k_if (Nat.ble n hh) (some n)) lo hh
noncomputable def k_sl {X : Type} (h : Hp X) (z : Nat) (x : AV) (lo hi : Option AV) : Option AV :=
  k_semp x (slB (X := X) z .semp lo hi none (k_capB h z)) (k_slice x (fun z' g off len cap => k_if (Nat.beq z' z) (k_some (k_hi hi len (k_capB h z g off len cap)) fun hh => k_some (k_lo lo hh) fun l => k_lit (Nat.add off (Nat.mul l z)) fun o => k_lit (Nat.sub hh l) fun n =>
    some (.slice z g o n (Option.rec (motive := fun _ => Nat → Option Nat) (fun _ => none) (fun k l => k_lit (Nat.sub k l) some) cap l)))) (slB (X := X) z .snil lo hi none (k_capB h z)))
noncomputable def k_slS (s : List UInt8) (lo hi : Option AV) : Option AV := k_lit (k_len s 0) fun len => k_some (k_hi hi len fun n => Nat.ble n len) fun hh => k_some (k_lo lo hh) fun l => some (.str (k_drop l (k_take hh s)))
section
variable {X : Type}
noncomputable def k_mv (o : Mv) (e : En) (t : List AV) (h : Hp X) : Option AV := Mv.rec (motive := fun _ => En → List AV → Hp X → Option AV)
  (fun x e t _ => k_fv (k_od x e t) some)
  (fun c x y e t _ => k_bool (k_od c e t) fun b => Bool.rec (motive := fun _ => Option AV) (k_fv (k_od y e t) some) (k_fv (k_od x e t) some) b)
  (fun op q x y e t _ => k_bin op q (k_od x e t) (k_od y e t))
  (fun x e t _ => k_bool (k_od x e t) fun b => k_bool' (k_not b))
  (fun x e t _ => k_int (k_od x e t) fun k n => k_outw k (k_neg n))
  (fun k x e t _ => k_int (k_od x e t) fun _ n => k_outw k n)
  (fun x e t h => k_slice0 (k_od x e t) (fun _ g off len _ => k_some (k_row h g) fun l => k_takeS none len off l [] fun r => k_bytes r none fun s => some (.str s)) (some (.str [])))
  (fun x e t h => (Mv.i2s (.const (k_od x e t))).ev [] [] h)
  (fun x e t h => (Mv.nilc (.const (k_od x e t))).ev [] [] h)
  (fun off x e t _ => k_agg (k_od x e t) fun l => k_some (k_getN l off) fun v => k_fv v some)
  (fun off n x e t h => k_agg (k_od x e t) fun l => k_some (k_takeN n off l) fun r => some (.agg r))
  (fun i x e t _ => k_tup (k_od x e t) fun l => k_some (k_getN l i) fun v => k_fv v some)
  (fun zero ps e t _ => k_some (fillA zero (k_parts ps e t)) fun l => some (.agg l))
  (fun off x e t _ => k_ptr (k_od x e t) fun g o => k_lit (Nat.add o off) fun o => some (.ptr g o))
  (fun z x i e t _ => k_slice (k_od x e t) (fun _ g off len _ => k_some (k_nOf (k_od i e t)) fun n => k_if (Nat.blt n len) (k_lit (Nat.add off (Nat.mul n z)) fun o => some (.ptr g o))) none)
  (fun x i e t _ => k_str (k_od x e t) fun s => k_some (k_nOf (k_od i e t)) fun n => k_some (k_getB s n) fun b => k_lit b.toNat fun b => some (.int .u8 (.ofNat b)))
  (fun z x lo hi mx e t h => Option.rec (motive := fun _ => Option AV) (k_sl h z (k_od x e t) (k_oev lo e t) (k_oev hi e t)) (fun m => slB (X := X) z (k_od x e t) (k_oev lo e t) (k_oev hi e t) (some (k_od m e t)) (k_capB h z)) mx)
  (fun x lo hi e t _ => k_str (k_od x e t) fun s => k_slS s (k_oev lo e t) (k_oev hi e t))
  (fun x e t h => k_ptr (k_od x e t) fun g o => k_some (k_row h g) fun l => k_getN l o)
  (fun n x e t h => k_ptr (k_od x e t) fun g o => k_some (k_row h g) fun l => k_some (k_takeN n o l) fun r => some (.agg r))
  (fun x e t _ => k_slice0 (k_od x e t) (fun _ _ _ len _ => some (.int .i64 (.ofNat len))) (some (.int .i64 (.ofNat 0))))
  (fun x e t _ => k_str (k_od x e t) fun s => k_lit (k_len s 0) fun n => some (.int .i64 (.ofNat n)))
  (fun x e t h => (Mv.capv (.const (k_od x e t))).ev [] [] h)
  (fun ty x e t _ => k_fv (k_od x e t) fun v => some (.iface ty v))
  (fun f cs e t _ => k_ods cs e t fun l => some (.func f l))
  (fun x y e t h => (Mv.maxv (.const (k_od x e t)) (.const (k_od y e t))).ev [] [] h)
  (fun x y e t h => (Mv.minv (.const (k_od x e t)) (.const (k_od y e t))).ev [] [] h)
  (fun f cs e t _ => k_ods cs e t fun l => some (.meth f l))
  (fun z n x i e t _ => k_ptr (k_od x e t) fun g o => k_some (k_nOf (k_od i e t)) fun k => k_if (Nat.blt k n) (k_lit (Nat.add o (Nat.mul k z)) fun a => some (.ptr g a)))
  (fun neg ks x y e t _ => k_agg (k_od x e t) fun l => k_agg (k_od y e t) fun r => k_some (eqFs ks l r) fun b => k_bool' (b != neg)) o e t h
noncomputable def k_fT {α β : Type} (t : T α) (f : T α → β) : β := T.rec (motive := fun _ => (T α → β) → β) (fun f => f .nil) (fun l v r _ _ f => f (.node l v r)) t f
noncomputable def k_node {α : Type} (l : T α) (v : Option α) (r : T α) (ih : T α → Nat → Option α → T α) (n : Nat) (a : Option α) : T α :=
  Bool.rec (motive := fun _ => T α) (Bool.rec (motive := fun _ => T α) (k_fT (ih r (Nat.div n 2) a) fun r => .node l v r) (k_fT (ih l (Nat.div n 2) a) fun l => .node l v r) (Nat.beq (Nat.mod n 2) 0)) (.node l a r) (Nat.beq n 0)
noncomputable def k_tset {α : Type} (f : Nat) (t : T α) (n : Nat) (a : Option α) : T α :=
  Nat.rec (motive := fun _ => T α → Nat → Option α → T α) (fun t _ _ => t)
    (fun _ ih t n a => T.rec (motive := fun _ => (T α → Nat → Option α → T α) → Nat → Option α → T α) (fun ih n a => k_node .nil none .nil ih n a) (fun l v r _ _ ih n a => k_node l v r ih n a) t ih n a) f t n a
noncomputable def k_tget {α : Type} (f : Nat) (t : T α) (n : Nat) : Option α :=
  Nat.rec (motive := fun _ => T α → Nat → Option α) (fun _ _ => none)
    (fun _ ih t n => T.rec (motive := fun _ => (T α → Nat → Option α) → Nat → Option α) (fun _ _ => none)
      (fun l v r _ _ ih n => Bool.rec (motive := fun _ => Option α) (Bool.rec (motive := fun _ => Option α) (ih r (Nat.div n 2)) (ih l (Nat.div n 2)) (Nat.beq (Nat.mod n 2) 0)) v (Nat.beq n 0)) t ih n) f t n
noncomputable def k_push {β : Type} (h : Hp X) (c : AB X) (f : Nat → Hp X → β) : β := k_lit h.n fun n => k_fT (k_tset (Nat.succ n) h.t n (some c)) fun t => f n ⟨t, Nat.succ n⟩
noncomputable def k_put {β : Type} (h : Hp X) (g : Nat) (c : AB X) (f : Hp X → β) : β := k_fT (k_tset (Nat.succ g) h.t g (some c)) fun t => f ⟨t, h.n⟩
noncomputable def k_heap {β : Type} (h : Hp X) (f : Hp X → β) : β := k_lit h.n fun n => k_fT h.t fun t => f ⟨t, n⟩
noncomputable def k_done (x : Option (AV × Hp X)) : FRes X := Option.rec (motive := fun _ => FRes X) .bad (fun p => k_fvd p.1 fun v => k_heap p.2 fun h => .ret v h) x
noncomputable def k_doneV (h : Hp X) (x : Option AV) : FRes X := Option.rec (motive := fun _ => Hp X → FRes X) (fun _ => .bad) (fun v h => .ret v h) x h
noncomputable def k_someF {α : Type} (x : Option α) (f : α → FRes X) : FRes X := Option.rec (motive := fun _ => (α → FRes X) → FRes X) (fun _ => .bad) (fun a f => f a) x f
noncomputable def k_ifF (c : Bool) (a : FRes X) : FRes X := Bool.rec (motive := fun _ => FRes X → FRes X) (fun _ => .bad) (fun a => a) c a
noncomputable def k_ptrF (v : AV) (f : Nat → Nat → FRes X) : FRes X := AV.rec (motive_1 := fun _ => (Nat → Nat → FRes X) → FRes X) (motive_2 := fun _ => PUnit) (fun _ _ => fun _ => .bad) (fun _ => fun _ => .bad) (fun _ => fun _ => .bad) (fun a0 a1 => fun f => f a0 a1) (fun _ => .bad) (fun _ _ _ _ _ => fun _ => .bad) (fun _ => .bad) (fun _ _ _ => fun _ => .bad) (fun _ => .bad) (fun _ _ _ => fun _ => .bad) (fun _ => .bad) (fun _ _ => fun _ => .bad) (fun _ _ => fun _ => .bad) (fun _ => .bad) (fun _ => .bad) (fun _ _ _ => fun _ => .bad) PUnit.unit (fun _ _ _ _ => PUnit.unit) v f
noncomputable def k_sliceF (v : AV) (f : Nat → Nat → Nat → Nat → Option Nat → FRes X) (n : FRes X) : FRes X := AV.rec (motive_1 := fun _ => (Nat → Nat → Nat → Nat → Option Nat → FRes X) → FRes X → FRes X) (motive_2 := fun _ => PUnit) (fun _ _ => fun _ _ => .bad) (fun _ => fun _ _ => .bad) (fun _ => fun _ _ => .bad) (fun _ _ => fun _ _ => .bad) (fun _ _ => .bad) (fun a0 a1 a2 a3 a4 => fun f _ => f a0 a1 a2 a3 a4) (fun _ n => n) (fun _ _ _ => fun _ _ => .bad) (fun _ _ => .bad) (fun _ _ _ => fun _ _ => .bad) (fun _ _ => .bad) (fun _ _ => fun _ _ => .bad) (fun _ _ => fun _ _ => .bad) (fun _ _ => .bad) (fun _ _ => .bad) (fun _ _ _ => fun _ _ => .bad) PUnit.unit (fun _ _ _ _ => PUnit.unit) v f n
noncomputable def k_sliceF0 (v : AV) (f : Nat → Nat → Nat → Nat → Option Nat → FRes X) (n : FRes X) : FRes X := AV.rec (motive_1 := fun _ => (Nat → Nat → Nat → Nat → Option Nat → FRes X) → FRes X → FRes X) (motive_2 := fun _ => PUnit) (fun _ _ => fun _ _ => .bad) (fun _ => fun _ _ => .bad) (fun _ => fun _ _ => .bad) (fun _ _ => fun _ _ => .bad) (fun _ _ => .bad) (fun a0 a1 a2 a3 a4 => fun f _ => f a0 a1 a2 a3 a4) (fun _ n => n) (fun _ _ _ => fun _ _ => .bad) (fun _ _ => .bad) (fun _ _ _ => fun _ _ => .bad) (fun _ _ => .bad) (fun _ _ => fun _ _ => .bad) (fun _ _ => fun _ _ => .bad) (fun _ _ => .bad) (fun _ n => n) (fun _ _ _ => fun _ _ => .bad) PUnit.unit (fun _ _ _ _ => PUnit.unit) v f n
noncomputable def k_rw (h : Hp X) (g : Nat) (f : List AV → FRes X) : FRes X := k_someF (k_tget (Nat.succ g) h.t g) fun b => AB.rec (motive := fun _ => (List AV → FRes X) → FRes X) (fun l f => f l) (fun _ _ => .bad) (fun _ _ => .bad) b f
noncomputable def k_del {β : Type} (h : Hp X) (g : Nat) (f : Hp X → β) : β := k_fT (k_tset (Nat.succ g) h.t g none) fun t => f ⟨t, h.n⟩
noncomputable def k_elems (h : Hp X) (z : Nat) (y : AV) (f : Nat → List AV → FRes X) : FRes X :=
  k_sliceF0 y (fun z' g off len _ => k_ifF (Nat.beq z' z) (k_someF (k_row h g) fun l => k_takeS .bad (Nat.mul len z) off l [] fun r => f len r)) (f 0 [])
noncomputable def k_and (a b : Bool) : Bool := Bool.rec (motive := fun _ => Bool) false b a
noncomputable def k_appA (h : Hp X) (z bytes : Nat) (x : AV) (m : Nat) (vs : List AV) : FRes X :=
  Bool.rec (motive := fun _ => FRes X)
    (k_sliceF x (fun z' g off len cap => k_ifF (k_and (Nat.beq z' z) (k_and (Nat.ble (Nat.mul (Nat.add len m) bytes) 140737488355328) (Nat.ble (Nat.add len m) 9223372036854775807)))
      (k_lit (Nat.add len m) fun n => Option.rec (motive := fun _ => FRes X)
        (k_rw h g fun l => Bool.rec (motive := fun _ => FRes X)
          (k_takeS .bad (Nat.mul len z) off l vs fun r => k_del h g fun h => k_push h (.rw r) fun p h => .ret (.slice z p 0 n none) h)
          (k_put h g (.rw (k_spl (Nat.add off (Nat.mul len z)) vs l)) fun h => .ret (.slice z g off n none) h)
          (Nat.ble (Nat.add off (Nat.mul n z)) (k_len l 0)))
        (fun k => Bool.rec (motive := fun _ => FRes X)
          (k_someF (k_row h g) fun l => k_takeS .bad (Nat.mul len z) off l vs fun r => k_push h (.rw r) fun p h => .ret (.slice z p 0 n none) h)
          (k_rw h g fun l => k_ifF (Nat.ble (Nat.add off (Nat.mul n z)) (k_len l 0)) (k_put h g (.rw (k_spl (Nat.add off (Nat.mul len z)) vs l)) fun h => .ret (.slice z g off n (some k)) h))
          (Nat.ble n k)) cap))
      (k_ifF (k_and (Nat.ble (Nat.mul m bytes) 140737488355328) (Nat.ble m 9223372036854775807)) (k_push h (.rw vs) fun p h => .ret (.slice z p 0 m none) h)))
    (k_semp x (.ret .semp h) (k_sliceF x (fun z' g off len cap => .ret (.slice z' g off len cap) h) (.ret .snil h))) (Nat.beq m 0)
noncomputable def k_copyA (h : Hp X) (z : Nat) (x : AV) (m : Nat) (vs : List AV) : FRes X :=
  k_sliceF x (fun z' g off len _ => k_ifF (Nat.beq z' z) (k_lit (k_min m len) fun n => Bool.rec (motive := fun _ => FRes X)
    (k_rw h g fun l => k_ifF (Nat.ble (Nat.add off (Nat.mul n z)) (k_len l 0)) (k_put h g (.rw (k_spl off (k_take (Nat.mul n z) vs) l)) fun h => .ret (.int .i64 (.ofNat n)) h))
    (.ret (.int .i64 (.ofNat 0)) h) (Nat.beq n 0))) (.ret (.int .i64 (.ofNat 0)) h)
noncomputable def k_strF (v : AV) (f : List UInt8 → FRes X) : FRes X := AV.rec (motive_1 := fun _ => (List UInt8 → FRes X) → FRes X) (motive_2 := fun _ => PUnit) (fun _ _ => fun _ => .bad) (fun _ => fun _ => .bad) (fun a0 => fun f => f a0) (fun _ _ => fun _ => .bad) (fun _ => .bad) (fun _ _ _ _ _ => fun _ => .bad) (fun _ => .bad) (fun _ _ _ => fun _ => .bad) (fun _ => .bad) (fun _ _ _ => fun _ => .bad) (fun _ => .bad) (fun _ _ => fun _ => .bad) (fun _ _ => fun _ => .bad) (fun _ => .bad) (fun _ => .bad) (fun _ _ _ => fun _ => .bad) PUnit.unit (fun _ _ _ _ => PUnit.unit) v f
noncomputable def k_ef (o : Ef) (e : En) (t : List AV) (h : Hp X) : FRes X := Ef.rec (motive := fun _ => En → List AV → Hp X → FRes X)
  (fun cs _ _ h => k_push h (.rw cs) fun n h => .ret (.ptr n 0) h)
  (fun x e t h => k_someF (k_cells (k_od x e t)) fun l => k_ifF (k_all l) (k_push h (.rw l) fun n h => .ret (.ptr n 0) h))
  (fun z len zero ps e t h => k_someF (fillA (rep zero len) (k_parts ps e t)) fun l => k_ifF (Bool.rec (motive := fun _ => Bool) false (Bool.rec (motive := fun _ => Bool) false (Nat.ble len maxLen) (Nat.beq (k_len l 0) (Nat.mul len z))) (k_all l)) (k_push h (.rw l) fun n h => .ret (.slice z n 0 len (some len)) h))
  (fun n a x e t h => k_ptrF (k_od a e t) fun g off => k_someF (k_cells (k_od x e t)) fun vs => k_ifF (Bool.rec (motive := fun _ => Bool) false (Nat.beq (k_len vs 0) n) (k_all vs))
    (k_someF (k_tget (Nat.succ g) h.t g) fun b => AB.rec (motive := fun _ => FRes X) (fun l => k_ifF (Nat.ble (Nat.add off n) (k_len l 0)) (k_put h g (.rw (k_spl off vs l)) fun h => .ret .bot h)) (fun _ => .bad) (fun _ => .bad) b))
  (fun z b x y e t h => k_elems h z (k_od y e t) fun m vs => k_appA h z b (k_od x e t) m vs)
  (fun z b zero x n e t h => k_done ((Ef.appz z b zero (.const (k_od x e t)) (.const (k_od n e t))).ev [] [] h))
  (fun z x y e t h => k_elems h z (k_od y e t) fun m vs => k_copyA h z (k_od x e t) m vs)
  (fun z zero x e t h => k_done ((Ef.clear z zero (.const (k_od x e t))).ev [] [] h))
  (fun z b zero l c e t h => k_someF (k_nOf (k_od l e t)) fun n => k_someF (k_nOf (k_od c e t)) fun k => k_ifF (k_and (Nat.ble n k) (k_and (Nat.ble (Nat.mul b k) 140737488355328) (Nat.ble k 9223372036854775807))) (k_rep zero k fun l => k_push h (.rw l) fun p h => .ret (.slice z p 0 n (some k)) h))
  (fun x e t h => k_strF (k_od x e t) fun s => k_lit (k_len s 0) fun n => k_ifF (Nat.ble n 9223372036854775807) (k_mapB s fun l => k_push h (.rw l) fun p h => .ret (.slice 1 p 0 n none) h))
  (fun x e t h => k_done ((Ef.mark (.const (k_od x e t))).ev [] [] h))
  (fun b x y e t h => k_strF (k_od y e t) fun s => k_lit (k_len s 0) fun n => k_mapB s fun l => k_appA h 1 b (k_od x e t) n l) o e t h
noncomputable def k_func (v : AV) (f f2 : Nat → List AV → FRes X) : FRes X := AV.rec (motive_1 := fun _ => (Nat → List AV → FRes X) → (Nat → List AV → FRes X) → FRes X) (motive_2 := fun _ => PUnit) (fun _ _ => fun _ _ => .bad) (fun _ => fun _ _ => .bad) (fun _ => fun _ _ => .bad) (fun _ _ => fun _ _ => .bad) (fun _ _ => .bad) (fun _ _ _ _ _ => fun _ _ => .bad) (fun _ _ => .bad) (fun a0 a1 _ => fun f _ => f a0 a1) (fun _ _ => .bad) (fun _ _ _ => fun _ _ => .bad) (fun _ _ => .bad) (fun _ _ => fun _ _ => .bad) (fun _ _ => fun _ _ => .bad) (fun _ _ => .bad) (fun _ _ => .bad) (fun a0 a1 _ => fun _ f => f a0 a1) PUnit.unit (fun _ _ _ _ => PUnit.unit) v f f2
noncomputable def k_ifc (v : AV) (f : Nat → AV → FRes X) : FRes X := AV.rec (motive_1 := fun _ => (Nat → AV → FRes X) → FRes X) (motive_2 := fun _ => PUnit) (fun _ _ => fun _ => .bad) (fun _ => fun _ => .bad) (fun _ => fun _ => .bad) (fun _ _ => fun _ => .bad) (fun _ => .bad) (fun _ _ _ _ _ => fun _ => .bad) (fun _ => .bad) (fun _ _ _ => fun _ => .bad) (fun _ => .bad) (fun a0 a1 _ => fun f => f a0 a1) (fun _ => .bad) (fun _ _ => fun _ => .bad) (fun _ _ => fun _ => .bad) (fun _ => .bad) (fun _ => .bad) (fun _ _ _ => fun _ => .bad) PUnit.unit (fun _ _ _ _ => PUnit.unit) v f
noncomputable def k_op1 (o : Op1) (D : Dp X) (e : En) (t : List AV) (h : Hp X) : FRes X := Op1.rec (motive := fun _ => Dp X → En → List AV → Hp X → FRes X)
  (fun m _ e t h => k_doneV h (k_mv m e t h))
  (fun f _ e t h => k_ef f e t h)
  (fun f xs D e t h => k_ods xs e t fun l => D f l h)
  (fun f xs D e t h => k_func (k_od f e t) (fun g cs => k_ods xs e t fun l => D g (k_app l cs) h) (fun g fs => k_ods xs e t fun l => D g (k_app fs l) h))
  (fun x _ e t h => k_ifc (k_od x e t) fun ty v => .panic (.iface ty v) h) o D e t h
noncomputable def k_step (x : FRes X) (d : Ds) (ih : Dp X → En → List AV → Hp X → R X) (D : Dp X) (e : En) (t : List AV) : R X := FRes.rec (motive := fun _ => Ds → (Dp X → En → List AV → Hp X → R X) → Dp X → En → List AV → R X)
  (fun v h d ih D e t => Ds.rec (motive := fun _ => AV → Hp X → (Dp X → En → List AV → Hp X → R X) → Dp X → En → List AV → R X)
    (fun _ h ih D e t => ih D e t h) (fun i v h ih D e t => k_set t i v fun t => ih D e t h) (fun k v h ih D e t => ih D ((k, v) :: e) t h) d v h ih D e t)
  (fun v h _ _ _ _ t => .panic v t h) (fun _ _ _ _ _ => .bad) x d ih D e t
noncomputable def k_boolR {β : Type} (v : AV) (b : β) (f : Bool → β) : β := AV.rec (motive_1 := fun _ => β → (Bool → β) → β) (motive_2 := fun _ => PUnit) (fun _ _ => fun b _ => b) (fun a0 => fun _ f => f a0) (fun _ => fun b _ => b) (fun _ _ => fun b _ => b) (fun b _ => b) (fun _ _ _ _ _ => fun b _ => b) (fun b _ => b) (fun _ _ _ => fun b _ => b) (fun b _ => b) (fun _ _ _ => fun b _ => b) (fun b _ => b) (fun _ _ => fun b _ => b) (fun _ _ => fun b _ => b) (fun b _ => b) (fun b _ => b) (fun _ _ _ => fun b _ => b) PUnit.unit (fun _ _ _ _ => PUnit.unit) v b f
noncomputable def k_gd {β : Type} (v : AV) (b s : β) (f : Bool → β) : β := AV.rec (motive_1 := fun _ => β → β → (Bool → β) → β) (motive_2 := fun _ => PUnit) (fun _ _ => fun b _ _ => b) (fun a0 => fun _ _ f => f a0) (fun _ => fun b _ _ => b) (fun _ _ => fun b _ _ => b) (fun b _ _ => b) (fun _ _ _ _ _ => fun b _ _ => b) (fun b _ _ => b) (fun _ _ _ => fun b _ _ => b) (fun b _ _ => b) (fun _ _ _ => fun b _ _ => b) (fun b _ _ => b) (fun _ _ => fun b _ _ => b) (fun _ _ => fun _ s _ => s) (fun b _ _ => b) (fun b _ _ => b) (fun _ _ _ => fun b _ _ => b) PUnit.unit (fun _ _ _ _ => PUnit.unit) v b s f
noncomputable def k_beq (a b : Bool) : Bool := Bool.rec (motive := fun _ => Bool → Bool) (fun b => k_not b) (fun b => b) a b
noncomputable def k_rg (r : List St1) (D : Dp X) (e : En) (t : List AV) (h : Hp X) : R X := List.rec (motive := fun _ => Dp X → En → List AV → Hp X → R X) (fun _ _ t h => .norm t h)
  (fun s _ ih D e t h => St1.rec (motive := fun _ => (Dp X → En → List AV → Hp X → R X) → Dp X → En → List AV → Hp X → R X)
    (fun g d o ih D e t h => Option.rec (motive := fun _ => Ds → Op1 → (Dp X → En → List AV → Hp X → R X) → Dp X → En → List AV → Hp X → R X)
      (fun d o ih D e t h => k_step (k_op1 o D e t h) d ih D e t)
      (fun jw d o ih D e t h => k_gd (k_od jw.1 e t) .bad (k_step (.ret (.tup []) h) d ih D e t) fun b => Bool.rec (motive := fun _ => R X) (k_step (.ret (.tup []) h) d ih D e t) (k_step (k_op1 o D e t h) d ih D e t) (k_beq b jw.2)) g d o ih D e t h) s ih D e t h) r D e t h
noncomputable def k_seq (x : R X) (k : List AV → Hp X → R X) : R X := R.rec (motive := fun _ => (List AV → Hp X → R X) → R X) (fun t h k => k t h) (fun n t h _ => .brk n t h) (fun t h _ => .ret t h) (fun v t h _ => .panic v t h) (fun _ => .bad) x k
noncomputable def k_block (id : Nat) (x : R X) : R X := R.rec (motive := fun _ => Nat → R X) (fun t h _ => .norm t h) (fun n t h id => Bool.rec (motive := fun _ => R X) (.brk n t h) (.norm t h) (Nat.beq n id)) (fun t h _ => .ret t h) (fun v t h _ => .panic v t h) (fun _ => .bad) x id
noncomputable def k_loop (f : List AV → Hp X → R X) (n : Nat) : List AV → Hp X → R X :=
  Nat.rec (motive := fun _ => (List AV → Hp X → R X) → List AV → Hp X → R X) (fun _ _ _ => .bad) (fun _ ih f t h => k_seq (f t h) (ih f)) n f
noncomputable def k_pan (x : R X) (r : Dr) (t : List AV) : R X := R.rec (motive := fun _ => Dr → List AV → R X) (fun t h _ _ => .norm t h) (fun n t h _ _ => .brk n t h) (fun t h _ _ => .ret t h) (fun v _ h r t => .panic v (voidT r t) h) (fun _ _ => .bad) x r t
noncomputable def k_dr (r : Dr) (D : Dp X) (t : List AV) (h : Hp X) : R X := (fun x => k_pan x r t) (List.rec (motive := fun _ => Dp X → List (Pa X) → En → List AV → Hp X → R X) (fun _ _ _ t h => .norm t h)
  (fun s _ ih D past e t h => k_boolR (Option.rec (motive := fun _ => En → List AV → AV) (fun _ _ => .bool true) (fun jw e t => k_gd (k_od jw.1 e t) .bot (.bool false) fun b => .bool (k_beq b jw.2)) s.1.g e t) .bad fun b => Bool.rec (motive := fun _ => R X)
    (k_step (.ret (.tup []) h) s.1.d (fun D => ih D (k_app past [.skip])) D e t)
    (FRes.rec (motive := fun _ => R X) (fun v h' => Option.rec (motive := fun _ => R X) .bad (fun pa => Bool.rec (motive := fun _ => R X) .bad (k_step (.ret v h') s.1.d (fun D => ih D (k_app past [pa])) D e t) (chkAll h' past s.2)) (paOf s.1.o e t h v h')) (fun v h => .panic v t h) .bad (k_op1 s.1.o D e t h)) b) r D [] [] t h)
noncomputable def k_bc (b : BC) (D : Dp X) (N : Nat) (t : List AV) (h : Hp X) : R X :=
  BC.rec (motive := fun _ => Dp X → Nat → List AV → Hp X → R X) (fun _ _ t h => .norm t h) (fun r D _ t h => k_rg r D [] t h) (fun r D _ t h => k_dr r D t h) (fun _ _ fa fb D N t h => k_seq (fa D N t h) (fb D N)) (fun x _ _ fa fb D N t h => k_boolR (k_od x [] t) .bad fun c => Bool.rec (motive := fun _ => R X) (fb D N t h) (fa D N t h) c)
    (fun id _ f D N t h => k_block id (f D N t h)) (fun _ f D N t h => k_loop (f D N) N t h) (fun id _ _ t h => .brk id t h) (fun _ _ t h => .ret t h) b D N t h
noncomputable def k_rs (r : Rs) (t : List AV) (h : Hp X) : Option AV := Rs.rec (motive := fun _ => List AV → Hp X → Option AV) (fun x t _ => k_fv (k_od x [] t) some) (fun x t h => k_mv (.ld1 x) [] t h) (fun n x t h => k_mv (.ldn n x) [] t h) r t h
noncomputable def k_res (rs : List Rs) (t : List AV) (h : Hp X) : Option (List AV) := List.rec (motive := fun _ => List AV → Hp X → Option (List AV)) (fun _ _ => some []) (fun r _ ih t h => k_some (k_rs r t h) fun v => k_some (ih t h) fun l => some (v :: l)) rs t h
noncomputable def k_pack (l : List AV) : AV := List.rec (motive := fun _ => AV) (.tup []) (fun v l _ => List.rec (motive := fun _ => AV → AV) (fun v => v) (fun x l _ v => .tup (v :: x :: l)) l v) l
noncomputable def k_fin (rs : List Rs) (x : R X) : FRes X := R.rec (motive := fun _ => List Rs → FRes X) (fun t h rs => k_someF (k_res rs t h) fun l => .ret (k_pack l) h) (fun _ _ _ _ => .bad) (fun t h rs => k_someF (k_res rs t h) fun l => .ret (k_pack l) h) (fun v _ h _ => .panic v h) (fun _ => .bad) x rs
noncomputable def k_enter {β : Type} (keep : List Nat) (args : List AV) (f : List AV → β) : β := List.rec (motive := fun _ => List AV → (List AV → β) → β) (fun _ f => f []) (fun d _ ih args f => k_fv (k_get args d) fun v => ih args fun l => f (v :: l)) keep args f
noncomputable def k_bf (N : Nat) (f : BF) (D : Dp X) (args : List AV) (h : Hp X) : FRes X := BF.rec (motive := fun _ => Nat → Dp X → List AV → Hp X → FRes X)
  (fun nt keep body res N D args h => k_ifF (Nat.ble (k_len args 0) nt) (k_enter keep args fun t => k_fin res (k_bc body D N t h))) f N D args h
end
end Am
end Go.Proofs.Ytkgplkddpigagaa
namespace Go.Proofs.Ytkgplkddpigagaa
namespace Am
open Go.RowKit
set_option maxRecDepth 10000
theorem k_lit_eq {β : Type} (n : Nat) (f : Nat → β) : k_lit n f = f n := by cases n <;> rfl
theorem k_ilit_eq {β : Type} (n : Int) (f : Int → β) : k_ilit n f = f n := by
  cases n with
  | ofNat m => exact k_lit_eq m _
  | negSucc m => exact k_lit_eq m _
theorem k_subNN_eq (m n : Nat) : k_subNN m n = (m : Int) - n := by
  unfold k_subNN
  cases h : Nat.ble n m with
  | true =>
    have := Nat.le_of_ble_eq_true h
    show Int.ofNat (m - n) = _
    rw [Int.ofNat_eq_natCast]
    omega
  | false =>
    have : ¬ n ≤ m := fun hh => by rw [Nat.ble_eq_true_of_le hh] at h; cases h
    show Int.negSucc (n - m - 1) = _
    omega
theorem k_add_eq (a b : Int) : k_add a b = a + b := by
  cases a with
  | ofNat m => cases b with
    | ofNat n => rfl
    | negSucc n =>
      show k_subNN m (n + 1) = _
      rw [k_subNN_eq]; simp only [Int.ofNat_eq_natCast]; omega
  | negSucc m => cases b with
    | ofNat n =>
      show k_subNN n (m + 1) = _
      rw [k_subNN_eq]; simp only [Int.ofNat_eq_natCast]; omega
    | negSucc n => rfl
theorem k_neg_eq (a : Int) : k_neg a = -a := by
  cases a with
  | ofNat m => cases m <;> rfl
  | negSucc m => rfl
theorem k_mul_eq (a b : Int) : k_mul a b = a * b := by
  cases a with
  | ofNat m => cases b with
    | ofNat n => rfl
    | negSucc n =>
      show k_neg (.ofNat (m * (n + 1))) = _
      rw [k_neg_eq]; rfl
  | negSucc m => cases b with
    | ofNat n =>
      show k_neg (.ofNat ((m + 1) * n)) = _
      rw [k_neg_eq]; rfl
    | negSucc n => rfl
theorem k_lt_eq (a b : Int) : k_lt a b = decide (a < b) := by
  rw [Bool.eq_iff_iff, decide_eq_true_iff]
  cases a with
  | ofNat m => cases b with
    | ofNat n => show Nat.blt m n = true ↔ _; rw [Nat.blt_eq]; simp only [Int.ofNat_eq_natCast]; omega
    | negSucc n => show false = true ↔ _; simp only [Int.ofNat_eq_natCast]; constructor; (intro h; cases h); omega
  | negSucc m => cases b with
    | ofNat n => show true = true ↔ _; simp only [Int.ofNat_eq_natCast, true_iff]; omega
    | negSucc n => show Nat.blt n m = true ↔ _; rw [Nat.blt_eq]; omega
theorem k_eqi_eq (a b : Int) : k_eqi a b = (a == b) := by
  rw [Bool.eq_iff_iff, beq_iff_eq]
  cases a with
  | ofNat m => cases b with
    | ofNat n => show Nat.beq m n = true ↔ _; rw [Nat.beq_eq]; simp only [Int.ofNat_eq_natCast]; omega
    | negSucc n => show false = true ↔ _; constructor <;> intro h <;> cases h
  | negSucc m => cases b with
    | ofNat n => show false = true ↔ _; constructor <;> intro h <;> cases h
    | negSucc n => show Nat.beq n m = true ↔ _; rw [Nat.beq_eq]; constructor; (intro h; rw [h]); (intro h; cases h; rfl)
theorem k_nat2_eq {β : Type} {f : Nat → Nat → β} {s : Int → Int → β} (a b : Int) (h : ∀ m n : Nat, f m n = s (.ofNat m) (.ofNat n)) : k_nat2 f s a b = s a b := by
  cases a with
  | ofNat m => cases b with
    | ofNat n => exact h m n
    | negSucc n => rfl
  | negSucc m => rfl
theorem k_wrU_eq {w : Nat} {s : Int → Int} (n : Int) (h : ∀ m : Nat, s (.ofNat m) = .ofNat (m % w)) : k_wrU w s n = s n := by
  cases n with
  | ofNat m => exact (h m).symm
  | negSucc m => rfl
theorem k_wrI_eq {w : Nat} {s : Int → Int} (n : Int) (h : ∀ m : Int, -(w : Int) ≤ m → m < w → s m = m) : k_wrI w s n = s n := by
  cases n with
  | ofNat m =>
    show (Bool.rec (s (.ofNat m)) (.ofNat m) (Nat.blt m w) : Int) = _
    cases hb : Nat.blt m w with
    | false => rfl
    | true =>
      have := (Nat.blt_eq ▸ hb : m < w)
      refine (h _ ?_ ?_).symm <;> simp only [Int.ofNat_eq_natCast] <;> omega
  | negSucc m =>
    show (Bool.rec (s (.negSucc m)) (.negSucc m) (Nat.blt m w) : Int) = _
    cases hb : Nat.blt m w with
    | false => rfl
    | true =>
      have := (Nat.blt_eq ▸ hb : m < w)
      show Int.negSucc m = _
      refine (h _ ?_ ?_).symm <;> omega
theorem k_wr_eq (k : IntKind) (n : Int) : k_wr k n = wr k n := by
  cases k
  case i8 => exact k_wrI_eq n (fun m h1 h2 => by simp only [wr, IntKind.wrap, IntKind.bits, IntKind.signed]; simp; omega)
  case i16 => exact k_wrI_eq n (fun m h1 h2 => by simp only [wr, IntKind.wrap, IntKind.bits, IntKind.signed]; simp; omega)
  case i32 => exact k_wrI_eq n (fun m h1 h2 => by simp only [wr, IntKind.wrap, IntKind.bits, IntKind.signed]; simp; omega)
  case i64 => exact k_wrI_eq n (fun m h1 h2 => by simp only [wr, IntKind.wrap, IntKind.bits, IntKind.signed]; simp; omega)
  case u8 => exact k_wrU_eq n (fun m => by simp only [wr, IntKind.wrap, IntKind.bits, IntKind.signed]; simp)
  case u16 => exact k_wrU_eq n (fun m => by simp only [wr, IntKind.wrap, IntKind.bits, IntKind.signed]; simp)
  case u32 => exact k_wrU_eq n (fun m => by simp only [wr, IntKind.wrap, IntKind.bits, IntKind.signed]; simp)
  case u64 => exact k_wrU_eq n (fun m => by simp only [wr, IntKind.wrap, IntKind.bits, IntKind.signed]; simp)
theorem k_out_eq (k : IntKind) (n : Int) : k_out k n = some (.int k n) := k_ilit_eq n _
theorem k_outw_eq (k : IntKind) (n : Int) : k_outw k n = some (.int k (wr k n)) := by unfold k_outw; rw [k_ilit_eq, k_wr_eq]
theorem k_bool'_eq (b : Bool) : k_bool' b = some (.bool b) := by cases b <;> rfl
theorem k_not_eq (b : Bool) : k_not b = !b := by cases b <;> rfl
theorem k_or_eq (a b : Bool) : k_or a b = (a || b) := by cases a <;> rfl
theorem k_and_eq (a b : Bool) : k_and a b = (a && b) := by cases a <;> rfl
theorem k_beq_eq (a b : Bool) : k_beq a b = (a == b) := by cases a <;> cases b <;> rfl
theorem k_min_eq (a b : Nat) : k_min a b = min a b := by
  unfold k_min
  cases h : Nat.ble a b with
  | true => exact (Nat.min_eq_left (Nat.le_of_ble_eq_true h)).symm
  | false =>
    have : ¬ a ≤ b := fun hh => by rw [Nat.ble_eq_true_of_le hh] at h; cases h
    show b = _
    exact (Nat.min_eq_right (by omega)).symm
theorem k_kind_eq (k k' : IntKind) : Nat.beq (k_kind k) (k_kind k') = decide (k = k') := by cases k <;> cases k' <;> rfl
theorem k_bits_eq (k : IntKind) : k_bits k = k.bits := by cases k <;> rfl
theorem k_pw_eq (k : IntKind) : k_pw k = 2 ^ k.bits := by cases k <;> rfl
theorem k_shift_eq (op : BinOp) : k_shift op = isShift op := by cases op <;> rfl
theorem ofInt_nat (w m : Nat) : (BitVec.ofInt w (.ofNat m)).toNat = m % 2 ^ w := by simp [BitVec.toNat_ofInt]
theorem k_intOp_eq (op : BinOp) (k : IntKind) (a b : Int) : k_intOp op k a b = intOp op k a b := by
  cases op
  case add => show k_outw _ _ = _; rw [k_outw_eq, k_add_eq]; rfl
  case sub => show k_outw _ _ = _; rw [k_outw_eq, k_add_eq, k_neg_eq, ← Int.sub_eq_add_neg]; rfl
  case mul => show k_outw _ _ = _; rw [k_outw_eq, k_mul_eq]; rfl
  case quo =>
    refine k_nat2_eq (s := fun a b => intOp .quo k a b) a b fun m n => ?_
    simp only [intOp]
    cases hn : Nat.beq n 0 with
    | true =>
      have := Nat.eq_of_beq_eq_true hn
      subst this
      rfl
    | false =>
      have : n ≠ 0 := fun e => by subst e; cases hn
      rw [if_neg (by simpa using this)]
      exact k_outw_eq _ _
  case rem =>
    refine k_nat2_eq (s := fun a b => intOp .rem k a b) a b fun m n => ?_
    simp only [intOp]
    cases hn : Nat.beq n 0 with
    | true =>
      have := Nat.eq_of_beq_eq_true hn
      subst this
      rfl
    | false =>
      have : n ≠ 0 := fun e => by subst e; cases hn
      rw [if_neg (by simpa using this)]
      exact k_out_eq _ _
  case and =>
    refine k_nat2_eq (s := fun a b => intOp .and k a b) a b fun m n => ?_
    simp only [intOp, BitVec.toNat_and, ofInt_nat]
    rw [k_pw_eq]
    exact k_outw_eq _ _
  case or =>
    refine k_nat2_eq (s := fun a b => intOp .or k a b) a b fun m n => ?_
    simp only [intOp, BitVec.toNat_or, ofInt_nat]
    rw [k_pw_eq]
    exact k_outw_eq _ _
  case xor =>
    refine k_nat2_eq (s := fun a b => intOp .xor k a b) a b fun m n => ?_
    simp only [intOp, BitVec.toNat_xor, ofInt_nat]
    rw [k_pw_eq]
    exact k_outw_eq _ _
  case shl =>
    refine k_nat2_eq (s := fun a b => intOp .shl k a b) a b fun m n => ?_
    simp only [intOp]
    rw [if_neg (by simp)]
    rw [k_outw_eq, k_bits_eq, k_min_eq]
    congr 3
  case shr =>
    refine k_nat2_eq (s := fun a b => intOp .shr k a b) a b fun m n => ?_
    simp only [intOp]
    rw [if_neg (by simp)]
    rw [k_out_eq, k_bits_eq, k_min_eq]
    have e : ((2 : Int) ^ min n k.bits) = ((2 ^ min n k.bits : Nat) : Int) := by simp
    show some (AV.int k (Int.ofNat (m / 2 ^ min n k.bits))) = some (AV.int k ((Int.ofNat m).fdiv (2 ^ min n k.bits)))
    rw [e, Int.ofNat_eq_natCast, Int.ofNat_eq_natCast, Int.fdiv_eq_ediv_of_nonneg _ (Int.natCast_nonneg _), Int.natCast_ediv]
  case andNot => rfl
  case eql => show k_bool' _ = _; rw [k_bool'_eq, k_eqi_eq]; rfl
  case neq => show k_bool' _ = _; rw [k_bool'_eq, k_not_eq, k_eqi_eq]; rfl
  case lss => show k_bool' _ = _; rw [k_bool'_eq, k_lt_eq]; rfl
  case leq => show k_bool' _ = _; rw [k_bool'_eq, k_not_eq, k_lt_eq]; simp only [intOp]; congr 2; rw [Bool.eq_iff_iff]; simp
  case gtr => show k_bool' _ = _; rw [k_bool'_eq, k_lt_eq]; rfl
  case geq => show k_bool' _ = _; rw [k_bool'_eq, k_not_eq, k_lt_eq]; simp only [intOp]; congr 2; rw [Bool.eq_iff_iff]; simp
theorem k_len_eq {α : Type} (l : List α) (a : Nat) : k_len l a = l.length + a := by
  unfold k_len
  induction l generalizing a with
  | nil => simp
  | cons x l ih =>
    show k_lit a _ = _
    rw [k_lit_eq, ih]; simp; omega
theorem k_if_eq {β : Type} (c : Bool) (a : Option β) : k_if c a = bif c then a else none := by cases c <;> rfl
theorem k_some_eq {α β : Type} (x : Option α) (f : α → Option β) : k_some x f = x.bind f := by cases x <;> rfl
theorem k_appS_eq {α β : Type} (l r : List α) (f : List α → β) : k_appS l r f = f (l ++ r) := by
  unfold k_appS
  induction l generalizing f with
  | nil => rfl
  | cons x l ih => exact ih _
theorem k_strEq_eq (a b : List UInt8) : k_strEq a b = (a == b) := by
  unfold k_strEq
  induction a generalizing b with
  | nil => cases b <;> rfl
  | cons x a ih =>
    cases b with
    | nil => rfl
    | cons y b =>
      show (Bool.rec false _ (Nat.beq (k_bn x) (k_bn y)) : Bool) = _
      rw [List.cons_beq_cons]
      cases h : Nat.beq (k_bn x) (k_bn y) with
      | true =>
        have := Nat.eq_of_beq_eq_true h
        have : x = y := UInt8.toNat_inj.1 this
        subst this
        simp only [beq_self_eq_true, Bool.true_and]
        exact ih b
      | false =>
        have : x ≠ y := fun e => by subst e; rw [Nat.beq_refl] at h; cases h
        simp [this]
theorem k_strLt_eq (a b : List UInt8) : k_strLt a b = Op.bytesLess a b := by
  unfold k_strLt
  induction a generalizing b with
  | nil => cases b <;> rfl
  | cons x a ih =>
    cases b with
    | nil => rfl
    | cons y b =>
      show (Bool.rec (Bool.rec false _ (Nat.beq (k_bn x) (k_bn y))) true (Nat.blt (k_bn x) (k_bn y)) : Bool) = _
      rw [Op.bytesLess]
      have hlt : Nat.blt (k_bn x) (k_bn y) = decide (x < y) := by
        rw [Bool.eq_iff_iff, decide_eq_true_iff, Nat.blt_eq, UInt8.lt_iff_toNat_lt]; rfl
      have heq : Nat.beq (k_bn x) (k_bn y) = (x == y) := by
        rw [Bool.eq_iff_iff, beq_iff_eq, Nat.beq_eq, ← UInt8.toNat_inj]; rfl
      rw [hlt, heq, ← ih b]
      cases decide (x < y) <;> cases (x == y) <;> rfl
theorem k_strOp_eq (op : BinOp) (a b : List UInt8) : k_strOp op a b = strOp op a b := by
  cases op <;> first | rfl | skip
  case add =>
    show k_if (Nat.ble (Nat.add (k_len a 0) (k_len b 0)) 8388608) _ = _
    rw [k_if_eq, k_appS_eq, k_len_eq, k_len_eq, strOp]
    cases h : Nat.ble (Nat.add (a.length + 0) (b.length + 0)) 8388608 with
    | true => rw [if_pos (show a.length + b.length ≤ 8388608 from Nat.le_of_ble_eq_true h)]; rfl
    | false =>
      rw [if_neg (fun hh => ?_)]; rfl
      rw [Nat.ble_eq_true_of_le (show Nat.add (a.length + 0) (b.length + 0) ≤ 8388608 from hh)] at h; cases h
  case eql => show k_bool' _ = _; rw [k_bool'_eq, k_strEq_eq]; rfl
  case neq => show k_bool' _ = _; rw [k_bool'_eq, k_not_eq, k_strEq_eq]; rfl
  case lss => show k_bool' _ = _; rw [k_bool'_eq, k_strLt_eq]; rfl
  case leq => show k_bool' _ = _; rw [k_bool'_eq, k_or_eq, k_strLt_eq, k_strEq_eq]; rfl
  case gtr => show k_bool' _ = _; rw [k_bool'_eq, k_not_eq, k_or_eq, k_strLt_eq, k_strEq_eq]; rfl
  case geq => show k_bool' _ = _; rw [k_bool'_eq, k_not_eq, k_strLt_eq]; rfl
theorem k_bin_eq (op : BinOp) (q : Eq) (x y : AV) : k_bin op q x y = bin op q x y := by
  cases x <;> first | rfl | skip
  case int k a =>
    show k_int y _ = _
    rw [k_int_eq]
    simp only [bin]
    cases y <;> first | rfl | skip
    rename_i k' b
    simp only [AV.onInt, k_shift_eq, k_kind_eq, k_intOp_eq]
    cases isShift op <;> cases decide (k = k') <;> rfl
  case str a =>
    show k_str y _ = _
    rw [k_str_eq]
    simp only [bin]
    cases y <;> first | rfl | exact k_strOp_eq _ _ _
end Am
end Go.Proofs.Ytkgplkddpigagaa
namespace Go.Proofs.Ytkgplkddpigagaa
namespace Am
open Go.RowKit
set_option maxRecDepth 10000
theorem k_get_eq (l : List AV) (n : Nat) : k_get l n = getS l n := by
  unfold k_get
  induction l generalizing n with
  | nil => rfl
  | cons x l ih => cases n with
    | zero => rfl
    | succ n => exact ih n
theorem k_set_eq {β : Type} (l : List AV) (n : Nat) (v : AV) (f : List AV → β) : k_set l n v f = f (setS l n v) := by
  unfold k_set
  induction l generalizing n f with
  | nil => rfl
  | cons x l ih => cases n with
    | zero => rfl
    | succ n => exact ih n _
theorem k_look_eq (d : Nat) (e : En) : k_look d e = lookE d e := by
  unfold k_look
  induction e with
  | nil => rfl
  | cons p e ih =>
    obtain ⟨k, v⟩ := p
    show (Bool.rec _ v (Nat.beq k d) : AV) = _
    rw [lookE, ← ih]
    cases Nat.beq k d <;> rfl
theorem k_od_eq (x : Od) (e : En) (t : List AV) : k_od x e t = x.ev e t := by
  cases x with
  | slot i => exact k_get_eq _ _
  | env d => exact k_look_eq _ _
  | const v => rfl
theorem k_oev_eq (x : Option Od) (e : En) (t : List AV) : k_oev x e t = oev x e t := by
  cases x with
  | none => rfl
  | some o => show some (k_od o e t) = _; rw [k_od_eq]; rfl
theorem k_getN_eq (l : List AV) (n : Nat) : k_getN l n = getN l n := by
  unfold k_getN
  induction l generalizing n with
  | nil => rfl
  | cons x l ih => cases n with
    | zero => rfl
    | succ n => exact ih n
theorem k_getB_eq (l : List UInt8) (n : Nat) : k_getB l n = l[n]? := by
  unfold k_getB
  induction l generalizing n with
  | nil => rfl
  | cons x l ih => cases n with
    | zero => rfl
    | succ n => rw [List.getElem?_cons_succ]; exact ih n
theorem k_nOf_eq (v : AV) : k_nOf v = nOf v := by
  unfold k_nOf
  rw [k_int_eq]
  cases v <;> first | rfl | skip
  rename_i k n
  cases n <;> rfl
theorem k_slice_eq {β : Type} (v : AV) (f : Nat → Nat → Nat → Nat → Option Nat → Option β) (n : Option β) : k_slice v f n = match v with | .slice z g off len cap => f z g off len cap | .snil => n | _ => none := by cases v <;> rfl
theorem k_slice0_eq {β : Type} (v : AV) (f : Nat → Nat → Nat → Nat → Option Nat → Option β) (n : Option β) : k_slice0 v f n = match v with | .slice z g off len cap => f z g off len cap | .snil => n | .semp => n | _ => none := by cases v <;> rfl
theorem k_fv_eq {β : Type} (v : AV) (f : AV → β) : k_fv v f = f v := by cases v <;> rfl
theorem k_fvd_eq {β : Type} (v : AV) (f : AV → β) : k_fvd v f = f v := by
  cases v <;> first | rfl | skip
  case int k n => exact k_ilit_eq n _
  case ptr g o =>
    show k_lit g _ = _
    rw [k_lit_eq, k_lit_eq]
  case slice z g o n c =>
    show k_lit g _ = _
    rw [k_lit_eq, k_lit_eq, k_lit_eq]
theorem k_ods_eq {β : Type} (xs : List Od) (e : En) (t : List AV) (f : List AV → β) : k_ods xs e t f = f (xs.map fun x => x.ev e t) := by
  unfold k_ods
  induction xs generalizing f with
  | nil => rfl
  | cons x xs ih =>
    show k_fv (k_od x e t) _ = _
    rw [k_fv_eq, k_od_eq]
    exact ih _
theorem k_parts_eq (xs : List (Nat × Nat × Od)) (e : En) (t : List AV) : k_parts xs e t = xs.map fun p => (p.1, p.2.1, p.2.2.ev e t) := by
  unfold k_parts
  induction xs with
  | nil => rfl
  | cons p xs ih =>
    rw [List.map_cons, ← ih, ← k_od_eq]
theorem k_take_eq {α : Type} (n : Nat) (l : List α) : k_take n l = l.take n := by
  unfold k_take
  induction l generalizing n with
  | nil => simp
  | cons x l ih => cases n with
    | zero => rfl
    | succ n => rw [List.take_succ_cons, ← ih n]
theorem k_drop_eq {α : Type} (n : Nat) (l : List α) : k_drop n l = l.drop n := by
  unfold k_drop
  induction l generalizing n with
  | nil => simp
  | cons x l ih => cases n with
    | zero => rfl
    | succ n => rw [List.drop_succ_cons, ← ih n]
theorem k_app_eq {α : Type} (l r : List α) : k_app l r = l ++ r := by
  unfold k_app
  induction l with
  | nil => rfl
  | cons x l ih => rw [List.cons_append, ← ih]
theorem k_takeN_eq (n off : Nat) (l : List AV) : k_takeN n off l = takeN n off l := by
  unfold k_takeN takeN
  rw [k_if_eq, k_take_eq, k_drop_eq, k_len_eq]; rfl
theorem k_takeS_eq {β : Type} (d : β) (n off : Nat) (l vs : List AV) (f : List AV → β) : k_takeS d n off l vs f = match takeN n off l with | some r => f (r ++ vs) | none => d := by
  unfold k_takeS
  induction l generalizing n off f with
  | nil =>
    show (Bool.rec d (f vs) (Nat.beq (off + n) 0) : β) = _
    unfold takeN
    cases h : Nat.beq (off + n) 0 with
    | true =>
      have := Nat.eq_of_beq_eq_true h
      obtain rfl : off = 0 := by omega
      obtain rfl : n = 0 := by omega
      rfl
    | false =>
      have : off + n ≠ 0 := fun e => by rw [e] at h; cases h
      have h2 : Nat.ble (off + n) 0 = false := by cases hb : Nat.ble (off + n) 0 with | false => rfl | true => have := Nat.le_of_ble_eq_true hb; omega
      simp only [List.length_nil, h2]
      rfl
  | cons x l ih =>
    cases off with
    | zero => cases n with
      | zero => rfl
      | succ n =>
        show List.rec (motive := fun _ => Nat → Nat → List AV → β → (List AV → β) → β) _ _ l 0 n vs d _ = _
        rw [ih]
        have e1 : takeN (n + 1) 0 (x :: l) = (takeN n 0 l).map (x :: ·) := by
          unfold takeN
          have e2 : Nat.ble (0 + (n + 1)) (x :: l).length = Nat.ble (0 + n) l.length := by
            rw [Bool.eq_iff_iff, Nat.ble_eq, Nat.ble_eq, List.length_cons]; omega
          rw [e2]
          cases Nat.ble (0 + n) l.length <;> rfl
        rw [e1]
        cases takeN n 0 l <;> rfl
    | succ m =>
      show List.rec (motive := fun _ => Nat → Nat → List AV → β → (List AV → β) → β) _ _ l m n vs d f = _
      rw [ih]
      have e1 : takeN n (m + 1) (x :: l) = takeN n m l := by
        unfold takeN
        have e2 : Nat.ble (m + 1 + n) (x :: l).length = Nat.ble (m + n) l.length := by
          rw [Bool.eq_iff_iff, Nat.ble_eq, Nat.ble_eq, List.length_cons]; omega
        rw [e2]
        rfl
      rw [e1]
theorem k_u8_eq {β : Type} (v : AV) (d : β) (f : Int → β) : k_u8 v d f = match v with | .int .u8 n => f n | _ => d := by
  cases v <;> first | rfl | skip
  rename_i k n
  cases k <;> rfl
theorem k_bytes_eq {β : Type} (l : List AV) (d : β) (f : List UInt8 → β) : k_bytes l d f = match bytesOf l with | some s => f s | none => d := by
  unfold k_bytes
  induction l generalizing f with
  | nil => rfl
  | cons v l ih =>
    show k_u8 v d _ = _
    rw [k_u8_eq]
    cases v <;> first | rfl | skip
    rename_i k n
    cases k <;> first | rfl | skip
    simp only [bytesOf]
    cases n with
    | ofNat m =>
      refine (ih _).trans ?_
      cases bytesOf l <;> rfl
    | negSucc m =>
      refine (ih _).trans ?_
      cases bytesOf l <;> rfl
theorem k_mapB_eq {β : Type} (l : List UInt8) (f : List AV → β) : k_mapB l f = f (l.map fun b => .int .u8 b.toNat) := by
  unfold k_mapB
  induction l generalizing f with
  | nil => rfl
  | cons b l ih =>
    show k_lit (k_bn b) _ = _
    rw [k_lit_eq]
    exact ih _
theorem k_rep_eq {β : Type} (l : List AV) (n : Nat) (f : List AV → β) : k_rep l n f = f (rep l n) := by
  unfold k_rep
  induction n generalizing f with
  | zero => rfl
  | succ n ih =>
    refine (ih _).trans ?_
    rw [k_appS_eq]; rfl
theorem k_spl_eq (off : Nat) (vs l : List AV) : k_spl off vs l = spl off vs l := by
  unfold k_spl
  induction l generalizing off with
  | nil => unfold spl; simp
  | cons x l ih => cases off with
    | zero =>
      show k_app vs (k_drop (k_len vs 0) (x :: l)) = _
      rw [k_app_eq, k_drop_eq, k_len_eq]; unfold spl; simp
    | succ m =>
      show x :: _ = _
      rw [ih m]
      unfold spl
      rw [show m + 1 + vs.length = (m + vs.length) + 1 by omega]
      rfl
theorem k_cells_eq (v : AV) : k_cells v = cellsOf v := by cases v <;> rfl
theorem k_one_eq (v : AV) : k_one v = v.one := by cases v <;> rfl
theorem k_all_eq (l : List AV) : k_all l = allOne l := by
  unfold k_all
  induction l with
  | nil => rfl
  | cons x l ih =>
    show (Bool.rec false _ (k_one x) : Bool) = _
    rw [k_one_eq, allOne, ← ih]
    cases x.one <;> rfl
section
variable {X : Type}
theorem k_row_eq (h : Hp X) (g : Nat) : k_row h g = rowOf h g := by
  unfold k_row rowOf
  cases h.get g with
  | none => rfl
  | some b => cases b <;> rfl
theorem k_capB_eq (h : Hp X) (z g off len : Nat) (cap : Option Nat) (n : Nat) : k_capB h z g off len cap n = capB h z g off len cap n := by
  unfold k_capB capB
  rw [k_row_eq]
  cases Nat.ble n len with
  | true => rfl
  | false =>
    cases cap with
    | some k => rfl
    | none =>
      simp only [Bool.false_or]
      cases rowOf h g with
      | none => rfl
      | some l => simp only [k_len_eq]; rfl
theorem k_slS_eq (s : List UInt8) (lo hi : Option AV) : k_slS s lo hi = slS s lo hi := by
  unfold k_slS
  rw [k_lit_eq, k_len_eq, k_some_eq]
  unfold slS k_hi
  have e : ∀ hh, (k_some (k_lo lo hh) fun l => some (AV.str (k_drop l (k_take hh s)))) = match (match lo with | none => some 0 | some v => match nOf v with | some n => bif Nat.ble n hh then some n else none | none => none : Option Nat) with
    | none => none
    | some l => some (.str ((s.take hh).drop l)) := fun hh => by
    rw [k_some_eq]
    unfold k_lo
    cases lo with
    | none => simp only [Option.bind_some, k_drop_eq, k_take_eq]
    | some v =>
      simp only [k_some_eq, k_nOf_eq, k_if_eq, k_drop_eq, k_take_eq]
      cases nOf v with
      | none => rfl
      | some n => simp only [Option.bind_some]; cases Nat.ble n hh <;> rfl
  cases hi with
  | none => exact e _
  | some v =>
    simp only [k_some_eq, k_nOf_eq, k_if_eq]
    cases nOf v with
    | none => rfl
    | some n =>
      simp only [Option.bind_some, Nat.add_zero]
      cases Nat.ble n s.length with
      | false => rfl
      | true => have q := e n; rw [k_some_eq] at q; exact q
theorem k_sl_eq (h : Hp X) (z : Nat) (x : AV) (lo hi : Option AV) : k_sl h z x lo hi = slB z x lo hi none (capB h z) (X := X) := by
  have hc : k_capB h z = capB h z := by funext g off len cap n; exact k_capB_eq ..
  unfold k_sl
  rw [k_semp_eq, k_slice_eq, hc]
  cases x <;> first | rfl | skip
  rename_i z' g off len cap
  simp only [slB, k_if_eq]
  cases Nat.beq z' z with
  | false => rfl
  | true =>
    simp only [cond_true, Bool.not_true, cond_false]
    have e : ∀ hh, (k_some (k_lo lo hh) fun l => k_lit (Nat.add off (Nat.mul l z)) fun o => k_lit (Nat.sub hh l) fun n => some (AV.slice z g o n (Option.rec (motive := fun _ => Nat → Option Nat) (fun _ => none) (fun k l => k_lit (Nat.sub k l) some) cap l))) =
      match (match lo with | none => some 0 | some v => match nOf v with | some n => bif Nat.ble n hh then some n else none | none => none : Option Nat) with
        | none => none
        | some l => some (.slice z g (off + l * z) (hh - l) (match cap with | none => none | some k => some (k - l))) := fun hh => by
      have fin : ∀ l, (k_lit (Nat.add off (Nat.mul l z)) fun o => k_lit (Nat.sub hh l) fun n => some (AV.slice z g o n (Option.rec (motive := fun _ => Nat → Option Nat) (fun _ => none) (fun k l => k_lit (Nat.sub k l) some) cap l))) = some (.slice z g (off + l * z) (hh - l) (match cap with | none => none | some k => some (k - l))) := fun l => by
        rw [k_lit_eq, k_lit_eq]
        cases cap with
        | none => rfl
        | some k => simp only [k_lit_eq]; rfl
      rw [k_some_eq]
      unfold k_lo
      cases lo with
      | none => exact fin 0
      | some v =>
        simp only [k_some_eq, k_nOf_eq, k_if_eq]
        cases nOf v with
        | none => rfl
        | some n =>
          simp only [Option.bind_some]
          cases Nat.ble n hh with
          | false => rfl
          | true => exact fin n
    rw [k_some_eq]
    unfold k_hi
    cases hi with
    | none => exact e _
    | some v =>
      simp only [k_some_eq, k_nOf_eq, k_if_eq]
      cases nOf v with
      | none => rfl
      | some n =>
        simp only [Option.bind_some]
        cases capB h z g off len cap n with
        | false => rfl
        | true => have q := e n; rw [k_some_eq] at q; exact q
theorem onInt_congr {α : Type} {v : AV} {f g : IntKind → Int → Option α} (h : ∀ k n, f k n = g k n) : v.onInt f = v.onInt g := by cases v <;> first | rfl | exact h _ _
theorem onBool_congr {α : Type} {v : AV} {f g : Bool → Option α} (h : ∀ b, f b = g b) : v.onBool f = v.onBool g := by cases v <;> first | rfl | exact h _
theorem onStr_congr {α : Type} {v : AV} {f g : List UInt8 → Option α} (h : ∀ b, f b = g b) : v.onStr f = v.onStr g := by cases v <;> first | rfl | exact h _
theorem onPtr_congr {α : Type} {v : AV} {f g : Nat → Nat → Option α} (h : ∀ b c, f b c = g b c) : v.onPtr f = v.onPtr g := by cases v <;> first | rfl | exact h _ _
theorem onAgg_congr {α : Type} {v : AV} {f g : List AV → Option α} (h : ∀ b, f b = g b) : v.onAgg f = v.onAgg g := by cases v <;> first | rfl | exact h _
theorem onTup_congr {α : Type} {v : AV} {f g : List AV → Option α} (h : ∀ b, f b = g b) : v.onTup f = v.onTup g := by cases v <;> first | rfl | exact h _
theorem k_mv_eq (o : Mv) (e : En) (t : List AV) (h : Hp X) : k_mv o e t h = o.ev e t h := by
  cases o
  case mv x => show k_fv (k_od x e t) some = _; rw [k_fv_eq, k_od_eq]; rfl
  case pick c x y =>
    show k_bool (k_od c e t) _ = _
    rw [k_bool_eq, k_od_eq]
    refine onBool_congr fun b => ?_
    cases b
    · show k_fv (k_od y e t) some = _; rw [k_fv_eq, k_od_eq]; rfl
    · show k_fv (k_od x e t) some = _; rw [k_fv_eq, k_od_eq]; rfl
  case bin op q x y => show k_bin op q (k_od x e t) (k_od y e t) = _; rw [k_bin_eq, k_od_eq, k_od_eq]; rfl
  case notb x => show k_bool (k_od x e t) _ = _; rw [k_bool_eq, k_od_eq]; exact onBool_congr fun b => by rw [k_bool'_eq, k_not_eq]
  case neg x => show k_int (k_od x e t) _ = _; rw [k_int_eq, k_od_eq]; exact onInt_congr fun k n => by rw [k_outw_eq, k_neg_eq, Int.zero_sub]
  case conv k x => show k_int (k_od x e t) _ = _; rw [k_int_eq, k_od_eq]; exact onInt_congr fun _ n => by rw [k_outw_eq]
  case b2s x =>
    show k_slice0 (k_od x e t) _ _ = _
    rw [k_slice0_eq, k_od_eq]
    simp only [Mv.ev]
    cases x.ev e t <;> first | rfl | skip
    rename_i z g off len cap
    simp only [k_some_eq, k_row_eq]
    cases rowOf h g with
    | none => rfl
    | some l =>
      simp only [Option.bind_some, k_takeS_eq, k_bytes_eq, List.append_nil]
      cases takeN len off l with
      | none => rfl
      | some r => simp only []; cases bytesOf r <;> rfl
  case i2s x => show (Mv.i2s (.const (k_od x e t))).ev [] [] h = _; rw [k_od_eq]; rfl
  case nilc x => show (Mv.nilc (.const (k_od x e t))).ev [] [] h = _; rw [k_od_eq]; rfl
  case fld1 off x =>
    show k_agg (k_od x e t) _ = _; rw [k_agg_eq, k_od_eq]
    exact onAgg_congr fun l => by rw [k_some_eq, k_getN_eq]; cases getN l off; rfl; exact k_fv_eq _ _
  case fldn off n x =>
    show k_agg (k_od x e t) _ = _; rw [k_agg_eq, k_od_eq]
    exact onAgg_congr fun l => by rw [k_some_eq, k_takeN_eq]; cases takeN n off l <;> rfl
  case ext i x =>
    show k_tup (k_od x e t) _ = _; rw [k_tup_eq, k_od_eq]
    exact onTup_congr fun l => by rw [k_some_eq, k_getN_eq]; cases getN l i; rfl; exact k_fv_eq _ _
  case bld zero ps =>
    show k_some (fillA zero (k_parts ps e t)) _ = _
    rw [k_some_eq, k_parts_eq]
    simp only [Mv.ev]
    cases fillA zero (ps.map fun p => (p.1, p.2.1, p.2.2.ev e t)) <;> rfl
  case faddr off x => show k_ptr (k_od x e t) _ = _; rw [k_ptr_eq, k_od_eq]; exact onPtr_congr fun g o => by rw [k_lit_eq]; rfl
  case iaddr z x i =>
    show k_slice (k_od x e t) _ _ = _
    rw [k_slice_eq, k_od_eq]
    simp only [Mv.ev]
    cases x.ev e t <;> first | rfl | skip
    simp only [k_some_eq, k_nOf_eq, k_if_eq, k_lit_eq, k_od_eq]
    cases nOf (i.ev e t) <;> rfl
  case idx x i =>
    show k_str (k_od x e t) _ = _; rw [k_str_eq, k_od_eq]
    refine onStr_congr fun s => ?_
    rw [k_some_eq, k_nOf_eq, k_od_eq]
    cases nOf (i.ev e t) with
    | none => rfl
    | some n =>
      simp only [Option.bind_some, k_some_eq, k_getB_eq, k_lit_eq]
      cases s[n]? <;> rfl
  case sl z x lo hi mx =>
    cases mx with
    | none =>
      show k_sl h z (k_od x e t) (k_oev lo e t) (k_oev hi e t) = _
      rw [k_sl_eq, k_od_eq, k_oev_eq, k_oev_eq]; rfl
    | some m =>
      have hc : k_capB h z = capB h z := by funext g off len cap n; exact k_capB_eq ..
      show slB (X := X) z (k_od x e t) (k_oev lo e t) (k_oev hi e t) (some (k_od m e t)) (k_capB h z) = _
      rw [hc, k_od_eq, k_od_eq, k_oev_eq, k_oev_eq]; rfl
  case sls x lo hi => show k_str (k_od x e t) _ = _; rw [k_str_eq, k_od_eq]; exact onStr_congr fun s => by rw [k_slS_eq, k_oev_eq, k_oev_eq]
  case ld1 x =>
    show k_ptr (k_od x e t) _ = _; rw [k_ptr_eq, k_od_eq]
    exact onPtr_congr fun g o => by rw [k_some_eq, k_row_eq]; cases rowOf h g; rfl; exact k_getN_eq _ _
  case ldn n x =>
    show k_ptr (k_od x e t) _ = _; rw [k_ptr_eq, k_od_eq]
    refine onPtr_congr fun g o => ?_
    rw [k_some_eq, k_row_eq]
    cases rowOf h g with
    | none => rfl
    | some l =>
      simp only [Option.bind_some, k_some_eq, k_takeN_eq]
      cases takeN n o l <;> rfl
  case lenv x =>
    show k_slice0 (k_od x e t) _ _ = _
    rw [k_slice0_eq, k_od_eq]
    simp only [Mv.ev]
    cases x.ev e t <;> rfl
  case lens x => show k_str (k_od x e t) _ = _; rw [k_str_eq, k_od_eq]; exact onStr_congr fun s => by rw [k_lit_eq, k_len_eq]; rfl
  case capv x => show (Mv.capv (.const (k_od x e t))).ev [] [] h = _; rw [k_od_eq]; rfl
  case mkif ty x => show k_fv (k_od x e t) _ = _; rw [k_fv_eq, k_od_eq]; rfl
  case mkfn f cs => show k_ods cs e t _ = _; rw [k_ods_eq]; rfl
  case maxv x y => show (Mv.maxv (.const (k_od x e t)) (.const (k_od y e t))).ev [] [] h = _; rw [k_od_eq, k_od_eq]; rfl
  case minv x y => show (Mv.minv (.const (k_od x e t)) (.const (k_od y e t))).ev [] [] h = _; rw [k_od_eq, k_od_eq]; rfl
  case mkme f cs => show k_ods cs e t _ = _; rw [k_ods_eq]; rfl
  case seq neg ks x y =>
    show k_agg (k_od x e t) _ = _
    rw [k_agg_eq, k_od_eq]
    simp only [Mv.ev]
    congr 1
    funext l
    rw [k_agg_eq, k_od_eq]
    congr 1
    funext r
    rw [k_some_eq]
    cases eqFs ks l r with
    | none => rfl
    | some b => cases b <;> cases neg <;> rfl
  case iarr z n x i =>
    show k_ptr (k_od x e t) _ = _
    rw [k_ptr_eq, k_od_eq]
    refine onPtr_congr fun g o => ?_
    rw [k_some_eq, k_nOf_eq, k_od_eq]
    cases nOf (i.ev e t) with
    | none => rfl
    | some k => simp only [Option.bind_some, k_if_eq, k_lit_eq]; rfl
end
end Am
end Go.Proofs.Ytkgplkddpigagaa
namespace Go.Proofs.Ytkgplkddpigagaa
namespace Am
open Go.RowKit
set_option maxRecDepth 10000
theorem k_fT_eq {α β : Type} (t : T α) (f : T α → β) : k_fT t f = f t := by cases t <;> rfl
theorem k_tset_eq {α : Type} (f : Nat) (t : T α) (n : Nat) (a : Option α) : k_tset f t n a = t.set f n a := by
  unfold k_tset T.set
  induction f generalizing t n with
  | zero => rfl
  | succ f ih =>
    have key : ∀ (l : T α) (v : Option α) (r : T α) (g g' : T α → Nat → Option α → T α), (∀ t n, g t n a = g' t n a) → k_node l v r g n a =
      Bool.rec (motive := fun _ => T α) (Bool.rec (motive := fun _ => T α) (.node l v (g' r (Nat.div n 2) a)) (.node (g' l (Nat.div n 2) a) v r) (Nat.beq (Nat.mod n 2) 0)) (.node l a r) (Nat.beq n 0) := fun l v r g g' hg => by
      unfold k_node
      rw [k_fT_eq, k_fT_eq, hg, hg]
    cases t with
    | nil => exact key _ _ _ _ _ (fun t n => ih t n)
    | node l v r => exact key _ _ _ _ _ (fun t n => ih t n)
theorem get_nil {α : Type} (f n : Nat) : (T.nil : T α).get f n = none := by
  induction f generalizing n with
  | zero => rfl
  | succ f ih =>
    show (Bool.rec (motive := fun _ => Option α) (Bool.rec (motive := fun _ => Option α) (T.get f .nil (Nat.div n 2)) (T.get f .nil (Nat.div n 2)) (Nat.beq (Nat.mod n 2) 0)) none (Nat.beq n 0)) = _
    rw [ih]
    cases Nat.beq n 0 <;> cases Nat.beq (Nat.mod n 2) 0 <;> rfl
theorem k_tget_eq {α : Type} (f : Nat) (t : T α) (n : Nat) : k_tget f t n = t.get f n := by
  induction f generalizing t n with
  | zero => rfl
  | succ f ih =>
    cases t with
    | nil => rw [get_nil]; rfl
    | node l v r =>
      show (Bool.rec (motive := fun _ => Option α) (Bool.rec (motive := fun _ => Option α) (k_tget f r (Nat.div n 2)) (k_tget f l (Nat.div n 2)) (Nat.beq (Nat.mod n 2) 0)) v (Nat.beq n 0)) = _
      rw [ih, ih]; rfl
section
variable {X : Type}
theorem k_push_eq {β : Type} (h : Hp X) (c : AB X) (f : Nat → Hp X → β) : k_push h c f = f h.n (h.push c) := by unfold k_push; rw [k_lit_eq, k_fT_eq, k_tset_eq]; rfl
theorem k_put_eq {β : Type} (h : Hp X) (g : Nat) (c : AB X) (f : Hp X → β) : k_put h g c f = f (h.put g c) := by unfold k_put; rw [k_fT_eq, k_tset_eq]; rfl
theorem k_del_eq {β : Type} (h : Hp X) (g : Nat) (f : Hp X → β) : k_del h g f = f (h.del g) := by unfold k_del; rw [k_fT_eq, k_tset_eq]; rfl
theorem k_heap_eq {β : Type} (h : Hp X) (f : Hp X → β) : k_heap h f = f h := by unfold k_heap; rw [k_lit_eq, k_fT_eq]
def toF (x : Option (AV × Hp X)) : FRes X := match x with | some (v, h) => .ret v h | none => .bad
theorem k_done_eq (x : Option (AV × Hp X)) : k_done x = toF x := by
  cases x with
  | none => rfl
  | some p =>
    show k_fvd p.1 _ = _
    rw [k_fvd_eq, k_heap_eq]; rfl
theorem k_someF_eq {α : Type} (x : Option α) (f : α → FRes X) : k_someF x f = match x with | some a => f a | none => .bad := by cases x <;> rfl
theorem k_ifF_eq (c : Bool) (a : FRes X) : k_ifF c a = bif c then a else .bad := by cases c <;> rfl
theorem k_sliceF_eq (v : AV) (f : Nat → Nat → Nat → Nat → Option Nat → FRes X) (n : FRes X) : k_sliceF v f n = match v with | .slice z g off len cap => f z g off len cap | .snil => n | _ => .bad := by cases v <;> rfl
theorem k_sliceF0_eq (v : AV) (f : Nat → Nat → Nat → Nat → Option Nat → FRes X) (n : FRes X) : k_sliceF0 v f n = match v with | .slice z g off len cap => f z g off len cap | .snil => n | .semp => n | _ => .bad := by cases v <;> rfl
theorem k_ptrF_eq (v : AV) (f : Nat → Nat → FRes X) : k_ptrF v f = match v with | .ptr g o => f g o | _ => .bad := by cases v <;> rfl
theorem k_strF_eq (v : AV) (f : List UInt8 → FRes X) : k_strF v f = match v with | .str s => f s | _ => .bad := by cases v <;> rfl
theorem k_rw_eq (h : Hp X) (g : Nat) (f : List AV → FRes X) : k_rw h g f = match h.get g with | some (.rw l) => f l | _ => .bad := by
  unfold k_rw
  rw [k_tget_eq, k_someF_eq, show T.get (Nat.succ g) h.t g = h.get g from rfl]
  cases h.get g with
  | none => rfl
  | some b => cases b <;> rfl
theorem k_elems_eq (h : Hp X) (z : Nat) (y : AV) (f : Nat → List AV → FRes X) : k_elems h z y f = match elems h z y with | some (m, vs) => f m vs | none => .bad := by
  unfold k_elems elems
  rw [k_sliceF0_eq]
  cases y <;> first | rfl | skip
  rename_i z' g off len cap
  simp only [k_ifF_eq, k_someF_eq, k_row_eq, k_takeS_eq, List.append_nil]
  cases Nat.beq z' z <;> first | rfl | skip
  simp only [cond_true]
  cases rowOf h g with
  | none => rfl
  | some l =>
    show (match takeN (len * z) off l with | some r => f len r | none => .bad) = _
    simp only
    cases takeN (len * z) off l <;> rfl
theorem k_appA_eq (h : Hp X) (z bytes : Nat) (x : AV) (m : Nat) (vs : List AV) : k_appA h z bytes x m vs = toF (appA h z bytes x m vs) := by
  unfold k_appA appA
  cases Nat.beq m 0 with
  | true =>
    simp only [k_semp_eq, k_sliceF_eq, cond_true]
    cases x <;> rfl
  | false =>
    simp only [k_sliceF_eq, cond_false]
    cases x <;> first | rfl | skip
    case snil =>
      simp only [k_ifF_eq, k_and_eq, k_push_eq]
      show (bif Nat.ble (m * bytes) 140737488355328 && Nat.ble m maxLen then _ else _) = _
      cases Nat.ble (m * bytes) 140737488355328 && Nat.ble m maxLen <;> rfl
    case slice z' g off len cap =>
      simp only [k_ifF_eq, k_and_eq, k_lit_eq]
      show (bif (Nat.beq z' z && (Nat.ble ((len + m) * bytes) 140737488355328 && Nat.ble (len + m) maxLen)) then _ else _) = _
      rw [← Bool.and_assoc]
      cases Nat.beq z' z && Nat.ble ((len + m) * bytes) 140737488355328 && Nat.ble (len + m) maxLen with
      | false => rfl
      | true =>
        simp only [cond_true, Bool.not_true, cond_false]
        cases cap with
        | some k =>
          simp only []
          show (Bool.rec _ _ (Nat.ble (len + m) k) : FRes X) = _
          cases Nat.ble (len + m) k with
          | false =>
            simp only [cond_false, k_someF_eq, k_row_eq, k_takeS_eq, k_push_eq]
            cases rowOf h g with
            | none => rfl
            | some l =>
              show (match takeN (len * z) off l with | some r => _ | none => _) = _
              simp only
              cases takeN (len * z) off l <;> rfl
          | true =>
            simp only [cond_true, k_rw_eq, k_ifF_eq, k_len_eq, k_put_eq, k_spl_eq]
            cases h.get g with
            | none => rfl
            | some b =>
              cases b <;> first | rfl | skip
              rename_i l
              simp only
              show (bif Nat.ble (off + (len + m) * z) l.length then _ else _) = _
              cases Nat.ble (off + (len + m) * z) l.length <;> rfl
        | none =>
          simp only [k_rw_eq, k_len_eq, k_put_eq, k_spl_eq, k_takeS_eq, k_del_eq, k_push_eq]
          cases h.get g with
          | none => rfl
          | some b =>
            cases b <;> first | rfl | skip
            rename_i l
            simp only
            show (Bool.rec _ _ (Nat.ble (off + (len + m) * z) l.length) : FRes X) = _
            cases Nat.ble (off + (len + m) * z) l.length with
            | true => rfl
            | false =>
              simp only [cond_false]
              show (match takeN (len * z) off l with | some r => _ | none => _) = _
              cases takeN (len * z) off l <;> rfl
theorem k_copyA_eq (h : Hp X) (z : Nat) (x : AV) (m : Nat) (vs : List AV) : k_copyA h z x m vs = toF (copyA h z x m vs) := by
  unfold k_copyA copyA
  simp only [k_sliceF_eq]
  cases x <;> first | rfl | skip
  rename_i z' g off len cap
  simp only [k_ifF_eq, k_lit_eq, k_min_eq]
  cases Nat.beq z' z with
  | false => rfl
  | true =>
    simp only [cond_true]
    cases Nat.beq (min m len) 0 with
    | true => rfl
    | false =>
      simp only [cond_false, k_rw_eq, k_len_eq, k_put_eq, k_spl_eq, k_take_eq]
      cases h.get g with
      | none => rfl
      | some b =>
        cases b <;> first | rfl | skip
        rename_i l
        simp only
        show (bif Nat.ble (off + min m len * z) l.length then _ else _) = _
        cases Nat.ble (off + min m len * z) l.length <;> rfl
theorem k_ef_eq (o : Ef) (e : En) (t : List AV) (h : Hp X) : k_ef o e t h = toF (o.ev e t h) := by
  cases o
  case alloc cs => show k_push h (.rw cs) _ = _; rw [k_push_eq]; rfl
  case box x =>
    show k_someF (k_cells (k_od x e t)) _ = _
    rw [k_someF_eq, k_cells_eq, k_od_eq]
    simp only [Ef.ev, k_ifF_eq, k_all_eq, k_push_eq]
    cases cellsOf (x.ev e t) with
    | none => rfl
    | some l => simp only; cases allOne l <;> rfl
  case bslice z len zero ps =>
    show k_someF (fillA (rep zero len) (k_parts ps e t)) _ = _
    rw [k_someF_eq, k_parts_eq]
    simp only [Ef.ev, k_ifF_eq, k_all_eq, k_push_eq, k_len_eq]
    cases fillA (rep zero len) (ps.map fun p => (p.1, p.2.1, p.2.2.ev e t)) with
    | none => rfl
    | some l =>
      simp only
      cases allOne l <;> first | rfl | skip
      simp only [Bool.true_and, Nat.add_zero]
      show (bif (Bool.rec false (Bool.rec false (Nat.ble len maxLen) (Nat.beq l.length (len * z))) true : Bool) then _ else _) = toF (bif (Nat.beq l.length (len * z) && Nat.ble len maxLen) then _ else _)
      cases Nat.beq l.length (len * z) <;> first | rfl | skip
      cases Nat.ble len maxLen <;> rfl
  case store n a x =>
    show k_ptrF (k_od a e t) _ = _
    rw [k_ptrF_eq, k_od_eq]
    simp only [Ef.ev]
    cases a.ev e t <;> first | rfl | skip
    rename_i g off
    simp only [k_someF_eq, k_cells_eq, k_od_eq, k_ifF_eq, k_all_eq, k_len_eq]
    cases cellsOf (x.ev e t) with
    | none => rfl
    | some vs =>
      simp only [Nat.add_zero]
      cases allOne vs <;> first | rfl | skip
      cases Nat.beq vs.length n <;> first | rfl | skip
      simp only [Bool.true_and, cond_true, k_tget_eq, show T.get (Nat.succ g) h.t g = h.get g from rfl]
      cases h.get g with
      | none => rfl
      | some b =>
        cases b <;> first | rfl | skip
        rename_i l
        simp only [k_put_eq, k_spl_eq]
        show (bif Nat.ble (off + n) l.length then _ else _) = _
        cases Nat.ble (off + n) l.length <;> rfl
  case append z b x y =>
    show k_elems h z (k_od y e t) _ = _
    rw [k_elems_eq, k_od_eq]
    simp only [Ef.ev, k_appA_eq, k_od_eq]
    cases elems h z (y.ev e t) with
    | none => rfl
    | some p => rfl
  case appz z b zero x n => show k_done _ = _; rw [k_done_eq, k_od_eq, k_od_eq]; rfl
  case copy z x y =>
    show k_elems h z (k_od y e t) _ = _
    rw [k_elems_eq, k_od_eq]
    simp only [Ef.ev, k_copyA_eq, k_od_eq]
    cases elems h z (y.ev e t) with
    | none => rfl
    | some p => rfl
  case clear z zero x => show k_done _ = _; rw [k_done_eq, k_od_eq]; rfl
  case mkslice z b zero l c =>
    show k_someF (k_nOf (k_od l e t)) _ = _
    simp only [k_someF_eq, k_nOf_eq, k_od_eq, k_ifF_eq, k_and_eq, k_rep_eq, k_push_eq, Ef.ev]
    cases nOf (l.ev e t) with
    | none => rfl
    | some n =>
      cases nOf (c.ev e t) with
      | none => rfl
      | some k =>
        simp only
        show (bif (Nat.ble n k && (Nat.ble (b * k) 140737488355328 && Nat.ble k maxLen)) then _ else _) = _
        rw [← Bool.and_assoc]
        cases Nat.ble n k && Nat.ble (b * k) 140737488355328 && Nat.ble k maxLen <;> rfl
  case s2b x =>
    show k_strF (k_od x e t) _ = _
    rw [k_strF_eq, k_od_eq]
    simp only [Ef.ev, k_lit_eq, k_len_eq, k_ifF_eq, k_mapB_eq, k_push_eq]
    cases x.ev e t <;> first | rfl | skip
    rename_i s
    simp only [Nat.add_zero]
    show (bif Nat.ble s.length maxLen then _ else _) = _
    cases Nat.ble s.length maxLen <;> rfl
  case mark x => show k_done _ = _; rw [k_done_eq, k_od_eq]; rfl
  case apps b x y =>
    show k_strF (k_od y e t) _ = _
    rw [k_strF_eq, k_od_eq]
    simp only [Ef.ev, k_lit_eq, k_len_eq, k_mapB_eq, k_appA_eq, k_od_eq, Nat.add_zero]
    cases y.ev e t <;> rfl
theorem k_op1_eq (o : Op1) (D : Dp X) (e : En) (t : List AV) (h : Hp X) : k_op1 o D e t h = o.run D e t h := by
  cases o
  case mov m =>
    show k_doneV h (k_mv m e t h) = _
    rw [k_mv_eq]; simp only [Op1.run]
    cases m.ev e t h <;> rfl
  case eff f => show k_ef f e t h = _; rw [k_ef_eq]; simp only [Op1.run, toF]; cases f.ev e t h <;> rfl
  case call f xs => show k_ods xs e t _ = _; rw [k_ods_eq]; rfl
  case calv f xs =>
    show k_func (k_od f e t) _ _ = _
    rw [k_od_eq]; simp only [Op1.run]
    cases f.ev e t <;> first | rfl | skip
    · show k_ods xs e t _ = _
      rw [k_ods_eq, k_app_eq]
    · show k_ods xs e t _ = _
      rw [k_ods_eq, k_app_eq]
  case pan x =>
    show k_ifc (k_od x e t) _ = _
    rw [k_od_eq]; simp only [Op1.run]
    cases x.ev e t <;> rfl
theorem k_step_eq (x : FRes X) (d : Ds) (ih : Dp X → En → List AV → Hp X → R X) (D : Dp X) (e : En) (t : List AV) : k_step x d ih D e t = stepR x t fun v h' => ih D (putE d v e) (putT d v t) h' := by
  cases x <;> first | rfl | skip
  cases d <;> first | rfl | skip
  show k_set t _ _ _ = _
  rw [k_set_eq]; rfl
theorem k_rg_eq (r : List St1) (D : Dp X) (e : En) (t : List AV) (h : Hp X) : k_rg r D e t h = runRg D r e t h := by
  induction r generalizing e t h with
  | nil => rfl
  | cons s r ih =>
    obtain ⟨g, d, o⟩ := s
    have ihf : (fun v h' => k_rg r D (putE d v e) (putT d v t) h') = fun v h' => runRg D r (putE d v e) (putT d v t) h' := by funext v h'; exact ih _ _ _
    cases g with
    | none =>
      show k_step (k_op1 o D e t h) d (k_rg r) D e t = _
      rw [k_step_eq, k_op1_eq, ihf]; rfl
    | some jw =>
      obtain ⟨j, want⟩ := jw
      show k_gd (k_od j e t) _ _ _ = _
      rw [k_od_eq]
      simp only [runRg, gdv]
      cases j.ev e t <;> first | rfl | skip
      case tup l => show k_step (.ret (.tup []) h) d (k_rg r) D e t = _; rw [k_step_eq, ihf]; rfl
      rename_i b
      show (Bool.rec (k_step (.ret (.tup []) h) d (k_rg r) D e t) (k_step (k_op1 o D e t h) d (k_rg r) D e t) (k_beq b want) : R X) = _
      rw [k_beq_eq, k_step_eq, k_step_eq, k_op1_eq, ihf]
      simp only
      cases (b == want) <;> rfl
noncomputable def k_drGo (r : Dr) (D : Dp X) (past : List (Pa X)) (e : En) (t : List AV) (h : Hp X) : R X := List.rec (motive := fun _ => Dp X → List (Pa X) → En → List AV → Hp X → R X) (fun _ _ _ t h => .norm t h)
  (fun s _ ih D past e t h => k_boolR (Option.rec (motive := fun _ => En → List AV → AV) (fun _ _ => .bool true) (fun jw e t => k_gd (k_od jw.1 e t) .bot (.bool false) fun b => .bool (k_beq b jw.2)) s.1.g e t) .bad fun b => Bool.rec (motive := fun _ => R X)
    (k_step (.ret (.tup []) h) s.1.d (fun D => ih D (k_app past [.skip])) D e t)
    (FRes.rec (motive := fun _ => R X) (fun v h' => Option.rec (motive := fun _ => R X) .bad (fun pa => Bool.rec (motive := fun _ => R X) .bad (k_step (.ret v h') s.1.d (fun D => ih D (k_app past [pa])) D e t) (chkAll h' past s.2)) (paOf s.1.o e t h v h')) (fun v h => .panic v t h) .bad (k_op1 s.1.o D e t h)) b) r D past e t h
theorem k_drGo_eq (r : Dr) (D : Dp X) (past : List (Pa X)) (e : En) (t : List AV) (h : Hp X) : k_drGo r D past e t h = drGo D r past e t h := by
  induction r generalizing past e t h with
  | nil => rfl
  | cons s r ih =>
    obtain ⟨⟨g, d, o⟩, chk⟩ := s
    have ihf : ∀ p, (fun v h' => k_drGo r D p (putE d v e) (putT d v t) h') = fun v h' => drGo D r p (putE d v e) (putT d v t) h' := fun p => by funext v h'; exact ih _ _ _ _
    have fls : k_step (.ret (.tup []) h) d (fun D => k_drGo r D (k_app past [.skip])) D e t = drGo D r (past ++ [.skip]) (putE d (.tup []) e) (putT d (.tup []) t) h := by
      rw [k_step_eq, k_app_eq]; exact ih _ _ _ _
    have tru : (FRes.rec (motive := fun _ => R X) (fun v h' => Option.rec (motive := fun _ => R X) .bad (fun pa => Bool.rec (motive := fun _ => R X) .bad (k_step (.ret v h') d (fun D => k_drGo r D (k_app past [pa])) D e t) (chkAll h' past chk)) (paOf o e t h v h')) (fun v h => .panic v t h) .bad (k_op1 o D e t h) : R X) =
      (match o.run D e t h with
      | .ret v h' => (match paOf o e t h v h' with
        | some pa => bif chkAll h' past chk then drGo D r (past ++ [pa]) (putE d v e) (putT d v t) h' else .bad
        | none => .bad)
      | .panic v h' => .panic v t h'
      | .bad => .bad) := by
      rw [k_op1_eq]
      cases o.run D e t h <;> first | rfl | skip
      rename_i v h'
      simp only
      cases paOf o e t h v h' with
      | none => rfl
      | some pa =>
        simp only
        cases chkAll h' past chk with
        | false => rfl
        | true =>
          show k_step (.ret v h') d (fun D => k_drGo r D (k_app past [pa])) D e t = _
          rw [k_step_eq, k_app_eq]; exact ih _ _ _ _
    cases g with
    | none => exact tru
    | some jw =>
      obtain ⟨j, want⟩ := jw
      show k_boolR (k_gd (k_od j e t) .bot (.bool false) fun b => .bool (k_beq b want)) _ _ = _
      rw [k_od_eq]
      simp only [drGo, gdv, St1.g]
      cases j.ev e t <;> first | rfl | skip
      case tup l => exact fls
      rename_i b
      show (Bool.rec _ _ (k_beq b want) : R X) = _
      rw [k_beq_eq]
      simp only
      cases (b == want) with
      | false => exact fls
      | true => exact tru
theorem k_pan_eq (x : R X) (r : Dr) (t : List AV) : k_pan x r t = panR (voidT r t) x := by cases x <;> rfl
theorem k_dr_eq (r : Dr) (D : Dp X) (t : List AV) (h : Hp X) : k_dr r D t h = drR D r t h := by
  show k_pan (k_drGo r D [] [] t h) r t = _
  rw [k_pan_eq, k_drGo_eq]
  rfl
theorem k_seq_eq (x : R X) (k : List AV → Hp X → R X) : k_seq x k = seqR x k := by cases x <;> rfl
theorem k_block_eq (id : Nat) (x : R X) : k_block id x = blockR id x := by
  cases x <;> first | rfl | skip
  rename_i n t h
  show (Bool.rec (.brk n t h) (.norm t h) (Nat.beq n id) : R X) = _
  simp only [blockR]
  cases Nat.beq n id <;> rfl
theorem k_loop_eq (f : List AV → Hp X → R X) (n : Nat) (t : List AV) (h : Hp X) : k_loop f n t h = loopR f n t h := by
  induction n generalizing t h with
  | zero => rfl
  | succ n ih =>
    show k_seq (f t h) (k_loop f n) = seqR (f t h) (loopR f n)
    rw [k_seq_eq]
    congr 1
    funext t h
    exact ih t h
theorem k_bc_eq (b : BC) (D : Dp X) (N : Nat) (t : List AV) (h : Hp X) : k_bc b D N t h = b.run D (drR D) N t h := by
  induction b generalizing t h with
  | skip => rfl
  | reg r => exact k_rg_eq r D [] t h
  | dreg r => exact k_dr_eq r D t h
  | seq a b iha ihb =>
    show k_seq (k_bc a D N t h) (k_bc b D N) = seqR (a.run D (drR D) N t h) (b.run D (drR D) N)
    rw [k_seq_eq, iha]
    congr 1
    funext t h
    exact ihb t h
  | cond x a b iha ihb =>
    show k_boolR (k_od x [] t) .bad (fun c => Bool.rec (motive := fun _ => R X) (k_bc b D N t h) (k_bc a D N t h) c) = condR (x.ev [] t) (a.run D (drR D) N t h) (b.run D (drR D) N t h)
    rw [k_od_eq, iha, ihb]
    cases x.ev [] t <;> first | rfl | skip
    rename_i c
    cases c <;> rfl
  | block id b ih =>
    show k_block id (k_bc b D N t h) = blockR id (b.run D (drR D) N t h)
    rw [k_block_eq, ih]
  | loop b ih =>
    show k_loop (k_bc b D N) N t h = loopR (b.run D (drR D) N) N t h
    rw [k_loop_eq]
    congr 1
    funext t h
    exact ih t h
  | exit id => rfl
  | ret => rfl
theorem k_rs_eq (r : Rs) (t : List AV) (h : Hp X) : k_rs r t h = r.ev t h := by
  cases r with
  | slot x => show k_fv (k_od x [] t) some = _; rw [k_fv_eq, k_od_eq]; rfl
  | cell1 x => show k_mv (.ld1 x) [] t h = (Mv.ld1 x).ev [] t h; exact k_mv_eq _ _ _ _
  | celln n x => show k_mv (.ldn n x) [] t h = (Mv.ldn n x).ev [] t h; exact k_mv_eq _ _ _ _
theorem k_res_eq (rs : List Rs) (t : List AV) (h : Hp X) : k_res rs t h = resV t h rs := by
  induction rs with
  | nil => rfl
  | cons r rs ih =>
    show k_some (k_rs r t h) (fun v => k_some (k_res rs t h) fun l => some (v :: l)) = _
    rw [k_some_eq, k_rs_eq, resV]
    simp only [k_some_eq, ih]
    cases r.ev t h with
    | none => rfl
    | some v => simp only [Option.bind_some]; cases resV t h rs <;> rfl
theorem k_pack_eq (l : List AV) : k_pack l = packA l := by
  cases l with
  | nil => rfl
  | cons v l => cases l <;> rfl
theorem k_fin_eq (rs : List Rs) (x : R X) : k_fin rs x = finR rs x := by
  cases x <;> first | rfl | skip
  all_goals
    rename_i t h
    show k_someF (k_res rs t h) _ = _
    rw [k_someF_eq, k_res_eq]
    simp only [finR, k_pack_eq]
    cases resV t h rs <;> rfl
theorem k_enter_eq {β : Type} (keep : List Nat) (args : List AV) (f : List AV → β) : k_enter keep args f = f (keep.map fun d => getS args d) := by
  unfold k_enter
  induction keep generalizing f with
  | nil => rfl
  | cons d keep ih =>
    show k_fv (k_get args d) _ = _
    rw [k_fv_eq, k_get_eq]
    exact ih _
theorem k_bf_eq (N : Nat) (f : BF) (D : Dp X) (args : List AV) (h : Hp X) : k_bf N f D args h = f.run (fun D => drR D) N D args h := by
  obtain ⟨nt, keep, body, res⟩ := f
  show k_ifF (Nat.ble (k_len args 0) nt) (k_enter keep args fun t => k_fin res (k_bc body D N t h)) = _
  rw [k_ifF_eq, k_enter_eq, k_fin_eq, k_bc_eq, k_len_eq]; rfl
end
end Am
end Go.Proofs.Ytkgplkddpigagaa
namespace Go.Proofs.Ytkgplkddpigagaa
namespace Am
open Go.RowKit
set_option maxRecDepth 10000
variable {P : Program}
def sub {X : Type} (h' h : Hp X) : Prop := h.n ≤ h'.n ∧ ∀ g c, h'.get g = some c → h.get g = some c
theorem SR.sub {O : Objs} {w0 w : World} {m : Mu} {φ : Ph} {h h' : Hp O.X} (H : SR O w0 w m φ h) (hs : Am.sub h' h) : SR O w0 w m φ h' :=
  ⟨H.below, fun g c hg p hp => H.blk g c (hs.2 g c hg) p hp, fun g g' c c' hg hg' hne o o' i i' => H.dis g g' c c' (hs.2 g c hg) (hs.2 g' c' hg') hne o o' i i',
    fun g c hg o i => H.fresh g c (hs.2 g c hg) o i, fun g p hp => Nat.lt_of_lt_of_le (H.dom g p hp) hs.1⟩
theorem ST.sub {O : Objs} {w0 : World} {keep : List Nat} {nt : Nat} {ds : List Deferred} {m0 : Mu} {n0 : Nat} {e : En} {t : List AV} {h h' : Hp O.X} {a : Act} {w : World} (H : ST O w0 keep nt ds m0 n0 e t h a w) (hs : Am.sub h' h) : ST O w0 keep nt ds m0 n0 e t h' a w := by
  obtain ⟨m, φ, h1, h2, h3, h4, h5⟩ := H
  exact ⟨m, φ, h1, Nat.le_trans h2 hs.1, h3.sub hs, h4, h5⟩
structure Stt (X : Type) where
  t : List AV
  n : Nat
  l : List (Nat × AB X)
noncomputable def Stt.tr {X : Type} (l : List (Nat × AB X)) : T (AB X) := List.rec (motive := fun _ => T (AB X)) .nil (fun p _ ih => T.set (Nat.succ p.1) ih p.1 (some p.2)) l
noncomputable def Stt.h {X : Type} (s : Stt X) : Hp X := ⟨Stt.tr s.l, s.n⟩
theorem Stt.get_tr {X : Type} {l : List (Nat × AB X)} {g : Nat} {c : AB X} (h : (Stt.tr l : T (AB X)).get (Nat.succ g) g = some c) : ∃ p ∈ l, p.1 = g ∧ c = p.2 := by
  induction l with
  | nil => rw [show (Stt.tr [] : T (AB X)) = .nil from rfl, get_nil] at h; cases h
  | cons p l ih =>
    have e : (Stt.tr (p :: l) : T (AB X)) = T.set (Nat.succ p.1) (Stt.tr l) p.1 (some p.2) := rfl
    rw [e] at h
    rcases T.getx_setx (Stt.tr l : T (AB X)) p.1 (some p.2) g h with ⟨h1, h2⟩ | h'
    · cases h2; exact ⟨p, List.mem_cons_self .., h1.symm, rfl⟩
    · obtain ⟨q, h1, h2⟩ := ih h'.2
      exact ⟨q, List.mem_cons_of_mem _ h1, h2⟩
inductive Kd where
  | norm
  | brk (k : Nat)
  | ret
def Kd.r {X : Type} (k : Kd) (t : List AV) (h : Hp X) : R X := match k with | .norm => .norm t h | .brk n => .brk n t h | .ret => .ret t h
noncomputable def eqBk {X : Type} (eqX : X → X → Bool) (a b : AB X) : Bool := AB.rec (motive := fun _ => AB X → Bool)
  (fun l b => AB.rec (motive := fun _ => Bool) (fun l' => eqAs l l') (fun _ => false) (fun _ => false) b) (fun _ _ => false) (fun x b => AB.rec (motive := fun _ => Bool) (fun _ => false) (fun _ => false) (fun y => eqX x y) b) a b
theorem eqBk_ok {X : Type} {eqX : X → X → Bool} (hX : ∀ x y, eqX x y = true → x = y) {a b : AB X} (h : eqBk eqX a b = true) : a = b := by
  cases a <;> cases b <;> first | (cases h; done) | skip
  · rw [eqAs_ok (show eqAs _ _ = true from h)]
  · rw [hX _ _ h]
noncomputable def chkL {X : Type} (eqX : X → X → Bool) (h : Hp X) (l : List (Nat × AB X)) : Bool :=
  List.rec (motive := fun _ => Bool) true (fun p _ ih => Option.rec (motive := fun _ => Bool) false (fun b => Bool.rec (motive := fun _ => Bool) false ih (eqBk eqX b p.2)) (k_tget (Nat.succ p.1) h.t p.1)) l
noncomputable def chkS {X : Type} (eqX : X → X → Bool) (t : List AV) (h : Hp X) (s : Stt X) : Bool :=
  Bool.rec (motive := fun _ => Bool) false (Bool.rec (motive := fun _ => Bool) false (chkL eqX h s.l) (Nat.ble h.n s.n)) (eqAs t s.t)
noncomputable def chkR {X : Type} (eqX : X → X → Bool) (x : R X) (k : Kd) (s : Stt X) : Bool :=
  R.rec (motive := fun _ => Kd → Stt X → Bool) (fun t h k s => Kd.rec (motive := fun _ => Bool) (chkS eqX t h s) (fun _ => false) false k)
    (fun n t h k s => Kd.rec (motive := fun _ => Bool) false (fun m => Bool.rec (motive := fun _ => Bool) false (chkS eqX t h s) (Nat.beq n m)) false k)
    (fun t h k s => Kd.rec (motive := fun _ => Bool) false (fun _ => false) (chkS eqX t h s) k) (fun _ _ _ _ _ => false) (fun _ _ => false) x k s
theorem chkL_ok {X : Type} {eqX : X → X → Bool} (hX : ∀ x y, eqX x y = true → x = y) {h : Hp X} : ∀ {l : List (Nat × AB X)}, chkL eqX h l = true → ∀ p ∈ l, h.get p.1 = some p.2
  | [], _, p, hp => by cases hp
  | q :: l, hq, p, hp => by
    have hq' : (Option.rec (motive := fun _ => Bool) false (fun b => Bool.rec (motive := fun _ => Bool) false (chkL eqX h l) (eqBk eqX b q.2)) (k_tget (Nat.succ q.1) h.t q.1) : Bool) = true := hq
    rw [k_tget_eq, show T.get (Nat.succ q.1) h.t q.1 = h.get q.1 from rfl] at hq'
    cases hb : h.get q.1 with
    | none => rw [hb] at hq'; cases hq'
    | some b =>
      rw [hb] at hq'
      simp only at hq'
      cases he : eqBk eqX b q.2 with
      | false => rw [he] at hq'; cases hq'
      | true =>
        rw [he] at hq'
        rcases List.mem_cons.1 hp with rfl | hp
        · rw [hb, eqBk_ok hX he]
        · exact chkL_ok hX hq' p hp
theorem chkS_ok {X : Type} {eqX : X → X → Bool} (hX : ∀ x y, eqX x y = true → x = y) {t : List AV} {h : Hp X} {s : Stt X} (hk : chkS eqX t h s = true) : t = s.t ∧ sub s.h h := by
  unfold chkS at hk
  cases h1 : eqAs t s.t with
  | false => rw [h1] at hk; cases hk
  | true =>
    rw [h1] at hk
    cases h2 : Nat.ble h.n s.n with
    | false => rw [h2] at hk; cases hk
    | true =>
      rw [h2] at hk
      refine ⟨eqAs_ok h1, Nat.le_of_ble_eq_true h2, fun g c hg => ?_⟩
      obtain ⟨p, hp, rfl, rfl⟩ := Stt.get_tr hg
      exact chkL_ok hX hk p hp
section
variable {O : Objs} {D : Dp O.X} {keep : List Nat} {nt : Nat}
def EvC (P : Program) (O : Objs) (keep : List Nat) (nt : Nat) (c : Code) (t : List AV) (h : Hp O.X) (r : R O.X) : Prop :=
  ∀ (w0 : World) (ds : List Deferred) (m0 : Mu) (n0 : Nat) (a : Act) (w : World), ST O w0 keep nt ds m0 n0 [] t h a w → c.wp P (QP O w0 keep nt ds m0 n0 r) a w
def EvB (P : Program) (O : Objs) (keep : List Nat) (nt : Nat) (b : BC) (t : List AV) (h : Hp O.X) (r : R O.X) : Prop := ∀ c, bcOf P keep nt (drOf P keep nt) c = some b → EvC P O keep nt c t h r
theorem ev_leaf (hD : DS P O D) {eqX : O.X → O.X → Bool} (hX : ∀ x y, eqX x y = true → x = y) {b : BC} {t : List AV} {h : Hp O.X} {k : Kd} {s : Stt O.X} (N : Nat) (hk : chkR eqX (k_bc b D N t h) k s = true) : EvB P O keep nt b t h (k.r s.t s.h) := by
  intro c hc w0 ds m0 n0 a w hst
  rw [k_bc_eq] at hk
  have hcs : CS P keep nt (fun D => drR D) c b := bc_ok (fun _ _ _ hr => dr_ok hr) hc
  have hb : b.run D (drR D) N t h ≠ .bad := fun e => by rw [e] at hk; cases hk
  refine wp_mono (hcs hD N t h hb a w hst) fun ex a' w' hq => ?_
  have hq2 : QP O w0 keep nt ds m0 n0 (b.run D (drR D) N t h) ex a' w' := hq
  cases hr : b.run D (drR D) N t h with
  | norm t' h' =>
    rw [hr] at hk hq2
    cases k with
    | norm => obtain ⟨rfl, h2⟩ := chkS_ok hX (h := h') (t := t') hk; exact ⟨hq2.1, hq2.2.sub h2⟩
    | brk n => cases hk
    | ret => cases hk
  | brk m t' h' =>
    rw [hr] at hk hq2
    cases k with
    | norm => cases hk
    | brk n =>
      have hk' : (Bool.rec (motive := fun _ => Bool) false (chkS eqX t' h' s) (Nat.beq m n) : Bool) = true := hk
      cases hmn : Nat.beq m n with
      | false => rw [hmn] at hk'; cases hk'
      | true =>
        rw [hmn] at hk'
        obtain ⟨rfl, h2⟩ := chkS_ok hX (h := h') (t := t') hk'
        have := Nat.eq_of_beq_eq_true hmn
        subst this
        exact ⟨hq2.1, hq2.2.sub h2⟩
    | ret => cases hk
  | ret t' h' =>
    rw [hr] at hk hq2
    cases k with
    | norm => cases hk
    | brk n => cases hk
    | ret => obtain ⟨rfl, h2⟩ := chkS_ok hX (h := h') (t := t') hk; exact ⟨hq2.1, hq2.2.sub h2⟩
  | panic v t' h' => rw [hr] at hk; cases hk
  | bad => exact absurd hr hb
variable {a b : BC} {t t1 : List AV} {h h1 : Hp O.X} {r : R O.X}
end
end Am
end Go.Proofs.Ytkgplkddpigagaa
namespace Go.Proofs.Ytkgplkddpigagaa
namespace Am
open Go.RowKit
set_option maxRecDepth 10000
variable {P : Program}
def O0 : Objs := { X := Empty, rep := fun x => x.elim, lt := fun {x} => x.elim, keep := fun {x} => x.elim }
def bots (keep : List Nat) : List AV := keep.map fun _ => .bot
noncomputable def h0 {X : Type} : Hp X := ⟨.nil, 0⟩
theorem sr_h0 (O : Objs) (W : World) : SR O W W (fun _ => none) (fun _ _ => False) h0 :=
  ⟨Below.refl _ _, (fun g c hg p hp => by cases hp), (fun g g' c c' _ _ _ _ _ hi => by cases hi), (fun g c _ _ hi => by cases hi), (fun g p hp => by cases hp)⟩
theorem closed_law {O : Objs} {f : Nat} {keep : List Nat} {B : BF} (hB : bfOf P (drOf P) f keep = some B) {t1 : List AV} {h1 : Hp O.X} (hE : EvB P O keep B.nt B.body (bots keep) h0 (.ret t1 h1)) (hr : resV t1 h1 B.res = some [.bool true]) (W : World) :
    Calls P f #[] W fun e W' => e = .returned (.bool true) ∧ Below W.heap.size W W' := by
  unfold bfOf at hB
  split at hB
  case h_2 => cases hB
  rename_i fn hfn
  split at hB
  case h_2 => cases hB
  rename_i c hc
  split at hB
  case h_2 => cases hB
  rename_i bb rs h1' h2'
  split at hB
  case isFalse => cases hB
  rename_i hchk
  cases hB
  rw [Bool.and_eq_true, Bool.and_eq_true] at hchk
  obtain ⟨⟨k1, k2⟩, k3⟩ := hchk
  refine calls_of_wp hfn hc ?_
  have hfr : FR (fun _ => none) keep fn.ntmps [] (bots keep) { tmps := (#[] : Array Value) ++ Array.replicate (fn.ntmps - (#[] : Array Value).size) undef, defers := [] } := by
    refine ⟨by simp, by simp [bots], nodup_ok k2, fun d _ => by simp [lookE, VR], fun i d hi => ?_⟩
    have : ∀ (l : List Nat) (i : Nat), getS (bots l) i = .bot := by
      intro l
      induction l with
      | nil => intro i; rfl
      | cons x l ih => intro i; cases i with | zero => rfl | succ i => exact ih i
    rw [this]
    simp [VR]
  have hst : ST O W keep fn.ntmps [] (fun _ => none) 0 [] (bots keep) h0 { tmps := (#[] : Array Value) ++ Array.replicate (fn.ntmps - (#[] : Array Value).size) undef, defers := [] } W := ⟨_, _, fun _ _ => rfl, Nat.le_refl _, sr_h0 O W, hfr, rfl⟩
  refine wp_mono (hE c h1' W [] _ 0 _ W hst) fun ex a' w' hq => ?_
  obtain ⟨rfl, m', φ', g1, g2, g3, g4, g5⟩ := hq
  obtain ⟨v', q1, q2⟩ := results_ok g3 g4 (rss_comp h2') hr
  have hv : v' = .bool true := by simpa [packA, VR] using q1
  subst hv
  exact ⟨g5, _, q2, rfl, g3.below⟩
end Am
end Go.Proofs.Ytkgplkddpigagaa
namespace Go.Proofs.Ytkgplkddpigagaa
namespace Am
open Go.RowKit
set_option maxRecDepth 10000
variable {P : Program}
structure DG where
  g : Nat
  nt : Nat
  keep : List Nat
  d0 : Ds
  d1 : Ds
  body : BC
noncomputable def DG.run {X : Type} (rn : BC → List AV → Hp X → R X) (G : DG) (pan : Bool) (cs : List AV) (h : Hp X) : Option (Hp X) :=
  bif Nat.ble cs.length G.nt then (match rn G.body (putT G.d1 (.bool pan) (putT G.d0 .bot (G.keep.map fun d => getS cs d))) h with
    | .norm _ h' => some h'
    | .ret _ h' => some h'
    | _ => none) else none
inductive BD where
  | here (m : Mv) (d : Ds) (x : Od)
  | left (a : BD) (b : BC)
  | right (a : BC) (b : BD)
noncomputable def BD.run {X : Type} (rn : BC → List AV → Hp X → R X) : BD → List AV → Hp X → Option (AV × R X)
  | .here m d x, t, h => (match m.ev [] t h with | some v => some (x.ev (putE d v []) (putT d v t), .norm (putT d v t) h) | none => none)
  | .left a b, t, h => (match BD.run rn a t h with | some (f, r) => some (f, seqR r (rn b)) | none => none)
  | .right a b, t, h => (match rn a t h with | .norm t' h' => BD.run rn b t' h' | _ => none)
structure DF where
  nt : Nat
  keep : List Nat
  body : BD
  res : List Rs
  G : DG
def howR {X : Type} (r : R X) : Option (Bool × List AV × Hp X) := match r with | .norm t h => some (false, t, h) | .ret t h => some (false, t, h) | .panic v t h => (match v with | .iface _ _ => some (true, t, h) | _ => none) | _ => none
noncomputable def endD {X : Type} (rn : BC → List AV → Hp X → R X) (f : DF) (x : Option (AV × R X)) : FRes X :=
  match x with
  | some (.func g cs, r) => bif Nat.beq g f.G.g then (match howR r with
    | some (pan, t, h) => (match f.G.run rn pan cs h with
      | some h' => (match resV t h' f.res with | some l => .ret (packA l) h' | none => .bad)
      | none => .bad)
    | none => .bad) else .bad
  | _ => .bad
noncomputable def DF.runW {X : Type} (rn : BC → List AV → Hp X → R X) (f : DF) (args : List AV) (h : Hp X) : FRes X :=
  bif Nat.ble args.length f.nt then endD rn f (f.body.run rn (f.keep.map fun d => getS args d) h) else .bad
noncomputable def DF.run {X : Type} (N : Nat) (f : DF) (D : Dp X) (args : List AV) (h : Hp X) : FRes X := f.runW (fun b t h => b.run D (drR D) N t h) args h
end Am
end Go.Proofs.Ytkgplkddpigagaa
namespace Go.Proofs.Ytkgplkddpigagaa
namespace Am
open Go.RowKit
set_option maxRecDepth 10000
variable {P : Program}
inductive Ent (X : Type) where
  | bc (b : BF)
  | df (b : DF)
  | nat (F : Fn X)
noncomputable def entF {X : Type} (N : Nat) (e : Ent X) : Fn X := match e with | .bc b => fun D args h => b.run (fun D => drR D) N D args h | .df b => fun D args h => b.run N D args h | .nat F => F
noncomputable def tabT {X : Type} (l : List (Nat × Ent X)) : T (Ent X) := List.rec (motive := fun _ => T (Ent X)) .nil (fun p _ ih => T.set 16 ih p.1 (some p.2)) l
theorem get_tab {X : Type} {l : List (Nat × Ent X)} {g : Nat} {c : Ent X} (h : (tabT l).get 16 g = some c) : ∃ p ∈ l, p.1 = g ∧ c = p.2 := by
  induction l with
  | nil => rw [show (tabT [] : T (Ent X)) = .nil from rfl, get_nil] at h; cases h
  | cons p l ih =>
    have e : (tabT (p :: l) : T (Ent X)) = T.set 16 (tabT l) p.1 (some p.2) := rfl
    rw [e] at h
    rcases T.get_set 16 (tabT l) p.1 (some p.2) g h with ⟨h1, h2⟩ | h'
    · cases h2; exact ⟨p, List.mem_cons_self .., h1.symm, rfl⟩
    · obtain ⟨q, h1, h2⟩ := ih h'.2
      exact ⟨q, List.mem_cons_of_mem _ h1, h2⟩
noncomputable def k_ent {X : Type} (N : Nat) (e : Ent X) (D : Dp X) (args : List AV) (h : Hp X) : FRes X := Ent.rec (motive := fun _ => Nat → Dp X → List AV → Hp X → FRes X) (fun b N D args h => k_bf N b D args h)
  (fun b N D args h => FRes.rec (motive := fun _ => FRes X) (fun v h => k_fvd v fun v => k_heap h fun h => .ret v h) (fun v h => .panic v h) .bad (b.runW (fun c t h => k_bc c D N t h) args h))
  (fun F _ D args h => FRes.rec (motive := fun _ => FRes X) (fun v h => k_fvd v fun v => k_heap h fun h => .ret v h) (fun v h => .panic v h) .bad (F D args h)) e N D args h
noncomputable def k_disp {X : Type} (t : T (Ent X)) (N n : Nat) : Dp X :=
  Nat.rec (motive := fun _ => Dp X) (fun _ _ _ => .bad) (fun _ ih f args h => Option.rec (motive := fun _ => Dp X → List AV → Hp X → FRes X) (fun _ _ _ => .bad) (fun e D args h => k_ent N e D args h) (k_tget 16 t f) ih args h) n
theorem k_ent_eq {X : Type} (N : Nat) (e : Ent X) (D : Dp X) (args : List AV) (h : Hp X) : k_ent N e D args h = entF N e D args h := by
  cases e with
  | bc b => exact k_bf_eq N b D args h
  | df b =>
    show (FRes.rec (motive := fun _ => FRes X) _ _ _ (b.runW (fun c t h => k_bc c D N t h) args h) : FRes X) = b.runW (fun c t h => c.run D (drR D) N t h) args h
    have e : (fun (c : BC) (t : List AV) (h : Hp X) => k_bc c D N t h) = fun c t h => c.run D (drR D) N t h := by funext c t h; exact k_bc_eq ..
    rw [e]
    cases b.runW (fun c t h => c.run D (drR D) N t h) args h with
    | ret v h => show k_fvd v _ = _; rw [k_fvd_eq, k_heap_eq]
    | panic v h => rfl
    | bad => rfl
  | nat F =>
    show (FRes.rec (motive := fun _ => FRes X) _ _ _ (F D args h) : FRes X) = F D args h
    cases F D args h with
    | ret v h => show k_fvd v _ = _; rw [k_fvd_eq, k_heap_eq]
    | panic v h => rfl
    | bad => rfl
theorem k_disp_ok {O : Objs} {N : Nat} {l : List (Nat × Ent O.X)} (hl : ∀ p ∈ l, FnOK P O p.1 (entF N p.2)) {t : T (Ent O.X)} (ht : t = tabT l) (n : Nat) : DS P O (k_disp t N n) := by
  subst ht
  have e : ∀ n, k_disp (tabT l) N n = disp (fun f => ((tabT l).get 16 f).map (entF N)) n := by
    intro n
    induction n with
    | zero => rfl
    | succ n ih =>
      funext f args h
      show (Option.rec (motive := fun _ => Dp O.X → List AV → Hp O.X → FRes O.X) (fun _ _ _ => .bad) (fun e D args h => k_ent N e D args h) (k_tget 16 (tabT l) f) (k_disp (tabT l) N n) args h : FRes O.X) =
        callO (((tabT l).get 16 f).map (entF N)) (disp (fun f => ((tabT l).get 16 f).map (entF N)) n) args h
      rw [k_tget_eq, ih]
      cases (tabT l).get 16 f with
      | none => rfl
      | some e => exact k_ent_eq N e _ _ _
  rw [e]
  refine disp_ok (fun f F hF => ?_) n
  obtain ⟨en, h1, rfl⟩ := Option.map_eq_some_iff.1 hF
  obtain ⟨p, hp, rfl, rfl⟩ := get_tab h1
  exact hl p hp
theorem ent_bc {O : Objs} {f : Nat} {b : BF} (N : Nat) (h : bfOf P (drOf P) f b.keep = some b) : FnOK P O f (entF N (.bc b)) := bfd_ok h N
end Am
end Go.Proofs.Ytkgplkddpigagaa
namespace Go.Proofs.Ytkgplkddpigagaa
namespace Am
open Go.RowKit
set_option maxRecDepth 10000
variable {P : Program}
section
variable {X : Type}
def Agr (S : List (Nat × List AV × Hp X)) (D D' : Dp X) : Prop := ∀ x ∈ S, D x.1 x.2.1 x.2.2 ≠ .bad → D' x.1 x.2.1 x.2.2 = D x.1 x.2.1 x.2.2
theorem Agr.left {S S' : List (Nat × List AV × Hp X)} {D D' : Dp X} (h : Agr (S ++ S') D D') : Agr S D D' := fun x hx => h x (List.mem_append_left _ hx)
theorem Agr.right {S S' : List (Nat × List AV × Hp X)} {D D' : Dp X} (h : Agr (S ++ S') D D') : Agr S' D D' := fun x hx => h x (List.mem_append_right _ hx)
theorem op1_fin {D : Dp X} {o : Op1} {e : En} {t : List AV} {h : Hp X} (hb : o.run D e t h ≠ .bad) : ∃ S, ∀ D', Agr S D D' → o.run D' e t h = o.run D e t h := by
  cases o with
  | mov m => exact ⟨[], fun _ _ => rfl⟩
  | eff f => exact ⟨[], fun _ _ => rfl⟩
  | pan x => exact ⟨[], fun _ _ => rfl⟩
  | call f xs => exact ⟨[(f, (xs.map fun (x : Od) => x.ev e t), h)], fun D' hD => hD (f, (xs.map fun (x : Od) => x.ev e t), h) (List.mem_singleton.2 rfl) hb⟩
  | calv f xs =>
    simp only [Op1.run] at hb ⊢
    cases hf : f.ev e t with
    | func g cs => rw [hf] at hb; exact ⟨[(g, (xs.map fun (x : Od) => x.ev e t) ++ cs, h)], fun D' hD => hD (g, (xs.map fun (x : Od) => x.ev e t) ++ cs, h) (List.mem_singleton.2 rfl) hb⟩
    | meth g fs => rw [hf] at hb; exact ⟨[(g, fs ++ (xs.map fun (x : Od) => x.ev e t), h)], fun D' hD => hD (g, fs ++ (xs.map fun (x : Od) => x.ev e t), h) (List.mem_singleton.2 rfl) hb⟩
    | _ => rw [hf] at hb; exact absurd rfl hb
theorem rg_fin {D : Dp X} : ∀ {r : List St1} {e : En} {t : List AV} {h : Hp X}, runRg D r e t h ≠ .bad → ∃ S, ∀ D', Agr S D D' → runRg D' r e t h = runRg D r e t h
  | [], _, _, _, _ => ⟨[], fun _ _ => rfl⟩
  | .mk g d o :: r, e, t, h, hb => by
    simp only [runRg] at hb ⊢
    cases hg : gdv g e t with
    | none => rw [hg] at hb; exact absurd rfl hb
    | some b =>
      rw [hg] at hb
      cases b with
      | false => exact rg_fin (r := r) hb
      | true =>
        simp only [gdR] at hb ⊢
        have ho : o.run D e t h ≠ .bad := fun e => by rw [e] at hb; exact hb rfl
        obtain ⟨S1, h1⟩ := op1_fin ho
        cases hr : o.run D e t h with
        | bad => exact absurd hr ho
        | panic v h' => exact ⟨S1, fun D' hD => by rw [h1 D' hD, hr]; rfl⟩
        | ret v h' =>
          rw [hr] at hb
          obtain ⟨S2, h2⟩ := rg_fin (r := r) (e := putE d v e) (t := putT d v t) (h := h') hb
          exact ⟨S1 ++ S2, fun D' hD => by rw [h1 D' hD.left, hr]; exact h2 D' hD.right⟩
theorem drG_fin {D : Dp X} : ∀ {r : Dr} {past : List (Pa X)} {e : En} {t : List AV} {h : Hp X}, drGo D r past e t h ≠ .bad → ∃ S, ∀ D', Agr S D D' → drGo D' r past e t h = drGo D r past e t h
  | [], _, _, _, _, _ => ⟨[], fun _ _ => rfl⟩
  | (s, chk) :: r, past, e, t, h, hb => by
    simp only [drGo] at hb ⊢
    cases hg : gdv s.g e t with
    | none => rw [hg] at hb; exact absurd rfl hb
    | some b =>
      rw [hg] at hb
      cases b with
      | false => exact drG_fin (r := r) hb
      | true =>
        simp only at hb ⊢
        have ho : s.o.run D e t h ≠ .bad := fun e => by rw [e] at hb; exact hb rfl
        obtain ⟨S1, h1⟩ := op1_fin ho
        cases hr : s.o.run D e t h with
        | bad => exact absurd hr ho
        | panic v h' => exact ⟨S1, fun D' hD => by rw [h1 D' hD, hr]⟩
        | ret v h' =>
          rw [hr] at hb
          simp only at hb
          cases hpa : paOf s.o e t h v h' with
          | none => rw [hpa] at hb; exact absurd rfl hb
          | some pa =>
            rw [hpa] at hb
            simp only at hb
            cases hc : chkAll h' past chk with
            | false => rw [hc] at hb; exact absurd rfl hb
            | true =>
              rw [hc] at hb
              obtain ⟨S2, h2⟩ := drG_fin (r := r) (past := past ++ [pa]) (e := putE s.d v e) (t := putT s.d v t) (h := h') hb
              exact ⟨S1 ++ S2, fun D' hD => by rw [h1 D' hD.left, hr]; simp only [hpa, hc, cond_true]; exact h2 D' hD.right⟩
theorem panR_bad {t : List AV} {x : R X} (h : panR t x ≠ .bad) : x ≠ .bad := fun e => by rw [e] at h; exact h rfl
theorem dr_fin {D : Dp X} {r : Dr} {t : List AV} {h : Hp X} (hb : drR D r t h ≠ .bad) : ∃ S, ∀ D', Agr S D D' → drR D' r t h = drR D r t h := by
  obtain ⟨S, h1⟩ := drG_fin (panR_bad hb)
  exact ⟨S, fun D' hD => by show panR _ _ = panR _ _; rw [h1 D' hD]⟩
theorem seqR_bad {x : R X} {k : List AV → Hp X → R X} (h : seqR x k ≠ .bad) : x ≠ .bad := fun e => by rw [e] at h; exact h rfl
theorem bc_fin {D : Dp X} {N : Nat} : ∀ {b : BC} {t : List AV} {h : Hp X}, b.run D (drR D) N t h ≠ .bad → ∃ S, ∀ D' N', N ≤ N' → Agr S D D' → b.run D' (drR D') N' t h = b.run D (drR D) N t h
  | .skip, _, _, _ => ⟨[], fun _ _ _ _ => rfl⟩
  | .exit _, _, _, _ => ⟨[], fun _ _ _ _ => rfl⟩
  | .ret, _, _, _ => ⟨[], fun _ _ _ _ => rfl⟩
  | .reg r, t, h, hb => by
    obtain ⟨S, h1⟩ := rg_fin (D := D) (r := r) (e := []) (t := t) (h := h) hb
    exact ⟨S, fun D' N' _ hD => h1 D' hD⟩
  | .dreg r, t, h, hb => by
    obtain ⟨S, h1⟩ := dr_fin (D := D) (r := r) (t := t) (h := h) hb
    exact ⟨S, fun D' N' _ hD => h1 D' hD⟩
  | .seq a b, t, h, hb => by
    have e : ∀ (D : Dp X) N t h, (BC.seq a b).run D (drR D) N t h = seqR (a.run D (drR D) N t h) (b.run D (drR D) N) := fun _ _ _ _ => rfl
    rw [e] at hb
    obtain ⟨S1, h1⟩ := bc_fin (b := a) (seqR_bad hb)
    cases hr : a.run D (drR D) N t h with
    | norm t' h' =>
      rw [hr] at hb
      obtain ⟨S2, h2⟩ := bc_fin (b := b) (t := t') (h := h') hb
      exact ⟨S1 ++ S2, fun D' N' hN hD => by rw [e, e, h1 D' N' hN hD.left, hr]; exact h2 D' N' hN hD.right⟩
    | _ => exact ⟨S1, fun D' N' hN hD => by rw [e, e, h1 D' N' hN hD, hr]; rfl⟩
  | .cond x a b, t, h, hb => by
    have e : ∀ (D : Dp X) N t h, (BC.cond x a b).run D (drR D) N t h = condR (x.ev [] t) (a.run D (drR D) N t h) (b.run D (drR D) N t h) := fun _ _ _ _ => rfl
    rw [e] at hb
    cases hx : x.ev [] t with
    | bool c =>
      rw [hx] at hb
      cases c with
      | true => obtain ⟨S, h1⟩ := bc_fin (b := a) hb; exact ⟨S, fun D' N' hN hD => by rw [e, e, hx]; exact h1 D' N' hN hD⟩
      | false => obtain ⟨S, h1⟩ := bc_fin (b := b) hb; exact ⟨S, fun D' N' hN hD => by rw [e, e, hx]; exact h1 D' N' hN hD⟩
    | _ => rw [hx] at hb; exact absurd rfl hb
  | .block id a, t, h, hb => by
    have e : ∀ (D : Dp X) N t h, (BC.block id a).run D (drR D) N t h = blockR id (a.run D (drR D) N t h) := fun _ _ _ _ => rfl
    rw [e] at hb
    have hx : a.run D (drR D) N t h ≠ .bad := fun e => by rw [e] at hb; exact hb rfl
    obtain ⟨S, h1⟩ := bc_fin (b := a) hx
    exact ⟨S, fun D' N' hN hD => by rw [e, e, h1 D' N' hN hD]⟩
  | .loop a, t, h, hb => by
    have e : ∀ (D : Dp X) N t h, (BC.loop a).run D (drR D) N t h = loopR (a.run D (drR D) N) N t h := fun _ _ _ _ => rfl
    rw [e] at hb
    have key : ∀ n t h, loopR (a.run D (drR D) N) n t h ≠ .bad → ∃ S, ∀ D' N' n', N ≤ N' → n ≤ n' → Agr S D D' → loopR (a.run D' (drR D') N') n' t h = loopR (a.run D (drR D) N) n t h := by
      intro n
      induction n with
      | zero => intro t h hb; exact absurd rfl hb
      | succ n ih =>
        intro t h hb
        have e2 : ∀ (f : List AV → Hp X → R X) n t h, loopR f (n + 1) t h = seqR (f t h) (loopR f n) := fun _ _ _ _ => rfl
        rw [e2] at hb
        obtain ⟨S1, h1⟩ := bc_fin (b := a) (seqR_bad hb)
        cases hr : a.run D (drR D) N t h with
        | norm t' h' =>
          rw [hr] at hb
          obtain ⟨S2, h2⟩ := ih t' h' hb
          refine ⟨S1 ++ S2, fun D' N' n' hN hn hD => ?_⟩
          obtain ⟨k, rfl⟩ : ∃ k, n' = k + 1 := ⟨n' - 1, by omega⟩
          rw [e2, e2, h1 D' N' hN hD.left, hr]
          exact h2 D' N' k hN (by omega) hD.right
        | _ =>
          refine ⟨S1, fun D' N' n' hN hn hD => ?_⟩
          obtain ⟨k, rfl⟩ : ∃ k, n' = k + 1 := ⟨n' - 1, by omega⟩
          rw [e2, e2, h1 D' N' hN hD, hr]
          rfl
    obtain ⟨S, h1⟩ := key N t h hb
    exact ⟨S, fun D' N' hN hD => by rw [e, e]; exact h1 D' N' N' hN hN hD⟩
theorem bf_fin {D : Dp X} {N : Nat} {b : BF} {args : List AV} {h : Hp X} (hb : b.run (fun D => drR D) N D args h ≠ .bad) : ∃ S, ∀ D' N', N ≤ N' → Agr S D D' → b.run (fun D => drR D) N' D' args h = b.run (fun D => drR D) N D args h := by
  have e : ∀ (D : Dp X) N, b.run (fun D => drR D) N D args h = (bif Nat.ble args.length b.nt then finR b.res (b.body.run D (drR D) N (b.keep.map fun d => getS args d) h) else .bad) := fun _ _ => rfl
  rw [e] at hb
  cases hl : Nat.ble args.length b.nt with
  | false => rw [hl] at hb; exact absurd rfl hb
  | true =>
    rw [hl] at hb
    have hx : b.body.run D (drR D) N (b.keep.map fun d => getS args d) h ≠ .bad := fun e => by rw [e] at hb; exact hb rfl
    obtain ⟨S, h1⟩ := bc_fin hx
    exact ⟨S, fun D' N' hN hD => by rw [e, e, h1 D' N' hN hD]⟩
theorem bd_fin {D : Dp X} {N : Nat} : ∀ {b : BD} {t : List AV} {h : Hp X} {f : AV} {r : R X}, b.run (fun b t h => b.run D (drR D) N t h) t h = some (f, r) → r ≠ .bad → ∃ S, ∀ D' N', N ≤ N' → Agr S D D' → b.run (fun b t h => b.run D' (drR D') N' t h) t h = some (f, r)
  | .here m d x, t, h, f, r, hr, _ => ⟨[], fun _ _ _ _ => hr⟩
  | .left a b, t, h, f, r, hr, hb => by
    simp only [BD.run] at hr
    cases hx : a.run (fun b t h => b.run D (drR D) N t h) t h with
    | none => rw [hx] at hr; cases hr
    | some p =>
      obtain ⟨f1, r1⟩ := p
      rw [hx] at hr
      simp only [Option.some.injEq, Prod.mk.injEq] at hr
      obtain ⟨rfl, rfl⟩ := hr
      obtain ⟨S1, h1⟩ := bd_fin hx (seqR_bad hb)
      cases r1 with
      | norm t' h' =>
        obtain ⟨S2, h2⟩ := bc_fin (b := b) (t := t') (h := h') hb
        exact ⟨S1 ++ S2, fun D' N' hN hD => by simp only [BD.run]; rw [h1 D' N' hN hD.left]; simp only [seqR]; rw [h2 D' N' hN hD.right]⟩
      | _ => exact ⟨S1, fun D' N' hN hD => by simp only [BD.run]; rw [h1 D' N' hN hD]; simp only [seqR]⟩
  | .right a b, t, h, f, r, hr, hb => by
    simp only [BD.run] at hr
    cases hx : a.run D (drR D) N t h with
    | norm t' h' =>
      rw [hx] at hr
      obtain ⟨S1, h1⟩ := bc_fin (b := a) (t := t) (h := h) (by rw [hx]; intro e; cases e)
      obtain ⟨S2, h2⟩ := bd_fin (b := b) hr hb
      exact ⟨S1 ++ S2, fun D' N' hN hD => by simp only [BD.run]; rw [h1 D' N' hN hD.left, hx]; exact h2 D' N' hN hD.right⟩
    | _ => rw [hx] at hr; cases hr
theorem dg_fin {D : Dp X} {N : Nat} {G : DG} {pan : Bool} {cs : List AV} {h h' : Hp X} (hr : G.run (fun b t h => b.run D (drR D) N t h) pan cs h = some h') : ∃ S, ∀ D' N', N ≤ N' → Agr S D D' → G.run (fun b t h => b.run D' (drR D') N' t h) pan cs h = some h' := by
  unfold DG.run at hr ⊢
  cases hl : Nat.ble cs.length G.nt with
  | false => rw [hl] at hr; cases hr
  | true =>
    rw [hl] at hr
    simp only [cond_true] at hr ⊢
    have hb : G.body.run D (drR D) N (putT G.d1 (.bool pan) (putT G.d0 .bot (G.keep.map fun d => getS cs d))) h ≠ .bad := fun e => by rw [e] at hr; cases hr
    obtain ⟨S, h1⟩ := bc_fin hb
    exact ⟨S, fun D' N' hN hD => by rw [h1 D' N' hN hD]; exact hr⟩
theorem df_fin {D : Dp X} {N : Nat} {b : DF} {args : List AV} {h : Hp X} (hb : b.run N D args h ≠ .bad) : ∃ S, ∀ D' N', N ≤ N' → Agr S D D' → b.run N' D' args h = b.run N D args h := by
  have e : ∀ (D : Dp X) N, b.run N D args h = (bif Nat.ble args.length b.nt then endD (fun b t h => b.run D (drR D) N t h) b (b.body.run (fun b t h => b.run D (drR D) N t h) (b.keep.map fun d => getS args d) h) else .bad) := fun _ _ => rfl
  rw [e] at hb
  cases hl : Nat.ble args.length b.nt with
  | false => rw [hl] at hb; exact absurd rfl hb
  | true =>
    rw [hl] at hb
    simp only [cond_true] at hb
    cases hx : b.body.run (fun b t h => b.run D (drR D) N t h) (b.keep.map fun d => getS args d) h with
    | none => rw [hx] at hb; exact absurd rfl hb
    | some p =>
      obtain ⟨f, r⟩ := p
      rw [hx] at hb
      have hr : r ≠ .bad := fun e => by
        subst e
        cases f <;> first | exact hb rfl | skip
        simp only [endD] at hb
        rename_i g cs
        cases hg : Nat.beq g b.G.g <;> rw [hg] at hb <;> exact hb rfl
      obtain ⟨S1, h1⟩ := bd_fin hx hr
      cases f <;> first | exact absurd rfl hb | skip
      rename_i g cs
      simp only [endD] at hb
      cases hg : Nat.beq g b.G.g with
      | false => rw [hg] at hb; exact absurd rfl hb
      | true =>
        rw [hg] at hb
        simp only [cond_true] at hb
        cases hy : howR r with
        | none => rw [hy] at hb; exact absurd rfl hb
        | some q =>
          obtain ⟨pan, t1, h1'⟩ := q
          rw [hy] at hb
          simp only at hb
          cases hG : b.G.run (fun b t h => b.run D (drR D) N t h) pan cs h1' with
          | none => rw [hG] at hb; exact absurd rfl hb
          | some h2 =>
            obtain ⟨S2, h3⟩ := dg_fin hG
            refine ⟨S1 ++ S2, fun D' N' hN hD => ?_⟩
            rw [e, e, hl, hx, h1 D' N' hN hD.left]
            simp only [cond_true, endD, hg, hy]
            rw [h3 D' N' hN hD.right, hG]
def Ent.plain (e : Ent X) : Prop := match e with | .bc _ => True | .df _ => True | .nat F => ∀ D D', F D = F D'
noncomputable def dl (E : Nat → Option (Ent X)) (n : Nat) : Dp X :=
  Nat.rec (motive := fun _ => Dp X) (fun _ _ _ => .bad) (fun n ih f args h => callO ((E f).map (entF n)) ih args h) n
theorem dl_up {E : Nat → Option (Ent X)} (hE : ∀ f e, E f = some e → e.plain) : ∀ n f a h, dl E n f a h ≠ .bad → dl E (n + 1) f a h = dl E n f a h
  | 0, f, a, h, hb => absurd rfl hb
  | n + 1, f, a, h, hb => by
    have e : ∀ n, dl E (n + 1) f a h = callO ((E f).map (entF n)) (dl E n) a h := fun _ => rfl
    rw [e] at hb
    rw [e, e]
    cases hf : E f with
    | none => rw [hf] at hb; exact absurd rfl hb
    | some en =>
      rw [hf] at hb
      cases en with
      | nat F => exact congrFun (congrFun (hE f _ hf _ _) _) _
      | df b =>
        obtain ⟨S, h1⟩ := df_fin (b := b) (N := n) (D := dl E n) (args := a) (h := h) hb
        exact h1 (dl E (n + 1)) (n + 1) (Nat.le_succ n) fun x _ hx => dl_up hE n _ _ _ hx
      | bc b =>
        obtain ⟨S, h1⟩ := bf_fin (b := b) (N := n) (D := dl E n) (args := a) (h := h) hb
        exact h1 (dl E (n + 1)) (n + 1) (Nat.le_succ n) fun x _ hx => dl_up hE n _ _ _ hx
theorem dl_le {E : Nat → Option (Ent X)} (hE : ∀ f e, E f = some e → e.plain) {n m : Nat} (hnm : n ≤ m) {f : Nat} {a : List AV} {h : Hp X} (hb : dl E n f a h ≠ .bad) : dl E m f a h = dl E n f a h := by
  induction hnm with
  | refl => rfl
  | step _ ih => rw [dl_up hE _ _ _ _ (by rw [ih]; exact hb), ih]
open Classical in
noncomputable def lim (E : Nat → Option (Ent X)) : Dp X := fun f a h => if hx : ∃ n, dl E n f a h ≠ .bad then dl E (Classical.choose hx) f a h else .bad
theorem lim_of {E : Nat → Option (Ent X)} (hE : ∀ f e, E f = some e → e.plain) {n f : Nat} {a : List AV} {h : Hp X} (hb : dl E n f a h ≠ .bad) : lim E f a h = dl E n f a h := by
  have hx : ∃ n, dl E n f a h ≠ .bad := ⟨n, hb⟩
  unfold lim
  rw [dif_pos hx]
  rcases Nat.le_total n (Classical.choose hx) with hle | hle
  · exact dl_le hE hle hb
  · exact (dl_le hE hle (Classical.choose_spec hx)).symm
theorem lim_to {E : Nat → Option (Ent X)} {f : Nat} {a : List AV} {h : Hp X} (hb : lim E f a h ≠ .bad) : ∃ n, dl E n f a h = lim E f a h := by
  unfold lim at hb ⊢
  by_cases hx : ∃ n, dl E n f a h ≠ .bad
  · rw [dif_pos hx]; exact ⟨_, rfl⟩
  · rw [dif_neg hx] at hb; exact absurd rfl hb
theorem agr_lim {E : Nat → Option (Ent X)} (hE : ∀ f e, E f = some e → e.plain) : ∀ S : List (Nat × List AV × Hp X), ∃ n, ∀ m, n ≤ m → Agr S (lim E) (dl E m)
  | [] => ⟨0, fun _ _ x hx => by cases hx⟩
  | y :: S => by
    obtain ⟨n, hn⟩ := agr_lim hE S
    by_cases hy : lim E y.1 y.2.1 y.2.2 = .bad
    · refine ⟨n, fun m hm x hx hb => ?_⟩
      rcases List.mem_cons.1 hx with rfl | hx
      · exact absurd hy hb
      · exact hn m hm x hx hb
    · obtain ⟨k, hk⟩ := lim_to hy
      refine ⟨max n k, fun m hm x hx hb => ?_⟩
      rcases List.mem_cons.1 hx with rfl | hx
      · rw [← hk]; exact dl_le hE (by omega) (by rw [hk]; exact hy)
      · exact hn m (by omega) x hx hb
theorem lim_bc {E : Nat → Option (Ent X)} (hE : ∀ f e, E f = some e → e.plain) {f : Nat} {b : BF} (hf : E f = some (.bc b)) {N : Nat} {a : List AV} {h : Hp X} (hb : b.run (fun D => drR D) N (lim E) a h ≠ .bad) : lim E f a h = b.run (fun D => drR D) N (lim E) a h := by
  obtain ⟨S, h1⟩ := bf_fin hb
  obtain ⟨n, hn⟩ := agr_lim hE S
  have h2 := h1 (dl E (max n N)) (max n N) (by omega) (hn _ (by omega))
  have h3 : dl E (max n N + 1) f a h = b.run (fun D => drR D) (max n N) (dl E (max n N)) a h := by
    show callO ((E f).map (entF (max n N))) (dl E (max n N)) a h = _
    rw [hf]
    rfl
  rw [← h2, ← h3]
  exact lim_of hE (by rw [h3, h2]; exact hb)
theorem lim_nat {E : Nat → Option (Ent X)} (hE : ∀ f e, E f = some e → e.plain) {f : Nat} {F : Fn X} (hf : E f = some (.nat F)) {D : Dp X} {a : List AV} {h : Hp X} (hb : F D a h ≠ .bad) : lim E f a h = F D a h := by
  have h3 : dl E 1 f a h = F D a h := by
    show callO ((E f).map (entF 0)) (dl E 0) a h = _
    rw [hf]
    exact congrFun (congrFun (hE f _ hf _ _) _) _
  rw [← h3]
  exact lim_of hE (by rw [h3]; exact hb)
end
theorem lim_ds {O : Objs} {E : Nat → Option (Ent O.X)} (hF : ∀ f e, E f = some e → ∀ N, FnOK P O f (entF N e)) : DS P O (lim E) := by
  have h1 : ∀ n, DS P O (dl E n) := by
    intro n
    induction n with
    | zero => exact fun f args h hb => absurd rfl hb
    | succ n ih =>
      intro f args h hb
      have e : dl E (n + 1) f args h = callO ((E f).map (entF n)) (dl E n) args h := rfl
      rw [e] at hb ⊢
      cases hf : E f with
      | none => rw [hf] at hb; exact absurd rfl hb
      | some en =>
        rw [hf] at hb
        obtain ⟨h1, h2⟩ := hF f en hf n
        exact ⟨h1, h2 ih args h hb⟩
  intro f args h hb
  obtain ⟨n, hn⟩ := lim_to hb
  rw [← hn] at hb ⊢
  exact h1 n f args h hb
section
variable {X : Type} {D : Dp X}
def Goes (D : Dp X) (b : BC) (t : List AV) (h : Hp X) (r : R X) : Prop := r ≠ .bad ∧ ∃ N, b.run D (drR D) N t h = r
theorem Goes.le {b : BC} {t : List AV} {h : Hp X} {r : R X} (H : Goes D b t h r) : ∃ n, ∀ m, n ≤ m → b.run D (drR D) m t h = r := by
  obtain ⟨h1, N, h2⟩ := H
  obtain ⟨S, h3⟩ := bc_fin (b := b) (D := D) (N := N) (t := t) (h := h) (by rw [h2]; exact h1)
  exact ⟨N, fun m hm => by rw [h3 D m hm (fun _ _ _ => rfl), h2]⟩
theorem goes_skip {t : List AV} {h : Hp X} : Goes D .skip t h (.norm t h) := ⟨(fun e => by cases e), 0, rfl⟩
theorem goes_exit {k : Nat} {t : List AV} {h : Hp X} : Goes D (.exit k) t h (.brk k t h) := ⟨(fun e => by cases e), 0, rfl⟩
theorem goes_ret {t : List AV} {h : Hp X} : Goes D .ret t h (.ret t h) := ⟨(fun e => by cases e), 0, rfl⟩
theorem goes_reg {l : List St1} {t : List AV} {h : Hp X} {r : R X} (hb : r ≠ .bad) (H : runRg D l [] t h = r) : Goes D (.reg l) t h r := ⟨hb, 0, H⟩
theorem goes_dreg {l : Dr} {t : List AV} {h : Hp X} {r : R X} (hb : r ≠ .bad) (H : drR D l t h = r) : Goes D (.dreg l) t h r := ⟨hb, 0, H⟩
theorem goes_seq {a b : BC} {t t1 : List AV} {h h1 : Hp X} {r : R X} (H1 : Goes D a t h (.norm t1 h1)) (H2 : Goes D b t1 h1 r) : Goes D (.seq a b) t h r := by
  obtain ⟨n1, g1⟩ := H1.le
  obtain ⟨n2, g2⟩ := H2.le
  refine ⟨H2.1, max n1 n2, ?_⟩
  show seqR (a.run D (drR D) (max n1 n2) t h) (b.run D (drR D) (max n1 n2)) = r
  rw [g1 _ (by omega)]
  exact g2 _ (by omega)
def R.left (r : R X) : Prop := match r with | .norm .. => False | .bad => False | _ => True
theorem goes_seq_left {a b : BC} {t : List AV} {h : Hp X} {r : R X} (hr : r.left) (H1 : Goes D a t h r) : Goes D (.seq a b) t h r := by
  obtain ⟨g0, N, g1⟩ := H1
  refine ⟨g0, N, ?_⟩
  show seqR (a.run D (drR D) N t h) (b.run D (drR D) N) = r
  rw [g1]
  cases r <;> first | exact hr.elim | rfl
theorem goes_true {x : Od} {a b : BC} {t : List AV} {h : Hp X} {r : R X} (hx : x.ev [] t = .bool true) (H : Goes D a t h r) : Goes D (.cond x a b) t h r := by
  obtain ⟨g0, N, g1⟩ := H
  refine ⟨g0, N, ?_⟩
  show condR (x.ev [] t) (a.run D (drR D) N t h) (b.run D (drR D) N t h) = r
  rw [hx]
  exact g1
theorem goes_false {x : Od} {a b : BC} {t : List AV} {h : Hp X} {r : R X} (hx : x.ev [] t = .bool false) (H : Goes D b t h r) : Goes D (.cond x a b) t h r := by
  obtain ⟨g0, N, g1⟩ := H
  refine ⟨g0, N, ?_⟩
  show condR (x.ev [] t) (a.run D (drR D) N t h) (b.run D (drR D) N t h) = r
  rw [hx]
  exact g1
theorem goes_block {id : Nat} {a : BC} {t : List AV} {h : Hp X} {r : R X} (H : Goes D a t h r) (hb : blockR id r ≠ .bad) : Goes D (.block id a) t h (blockR id r) := by
  obtain ⟨g0, N, g1⟩ := H
  refine ⟨hb, N, ?_⟩
  show blockR id (a.run D (drR D) N t h) = _
  rw [g1]
theorem goes_loop {a : BC} {t t1 : List AV} {h h1 : Hp X} {r : R X} (H1 : Goes D a t h (.norm t1 h1)) (H2 : Goes D (.loop a) t1 h1 r) : Goes D (.loop a) t h r := by
  obtain ⟨n1, g1⟩ := H1.le
  obtain ⟨h0, N, g2⟩ := H2
  obtain ⟨S, h3⟩ := bc_fin (b := .loop a) (D := D) (N := N) (t := t1) (h := h1) (by rw [g2]; exact h0)
  have e : ∀ N t h, (BC.loop a).run D (drR D) N t h = loopR (a.run D (drR D) N) N t h := fun _ _ _ => rfl
  have g3 : ∀ M, N ≤ M → loopR (a.run D (drR D) M) M t1 h1 = r := fun M hM => by rw [← e, h3 D M hM (fun _ _ _ => rfl), g2]
  have key : ∀ (f : List AV → Hp X → R X) n t h, loopR f n t h ≠ .bad → loopR f (n + 1) t h = loopR f n t h := by
    intro f n
    induction n with
    | zero => intro t h hb; exact absurd rfl hb
    | succ n ih =>
      intro t h hb
      have e2 : ∀ n t h, loopR f (n + 1) t h = seqR (f t h) (loopR f n) := fun _ _ _ => rfl
      rw [e2] at hb
      rw [e2, e2]
      cases hr : f t h with
      | norm t' h' => rw [hr] at hb; exact ih t' h' hb
      | _ => rfl
  refine ⟨h0, max n1 N + 1, ?_⟩
  rw [e]
  show seqR (a.run D (drR D) (max n1 N + 1) t h) (loopR (a.run D (drR D) (max n1 N + 1)) (max n1 N)) = r
  rw [g1 _ (by omega)]
  show loopR (a.run D (drR D) (max n1 N + 1)) (max n1 N) t1 h1 = r
  have hM := g3 (max n1 N) (by omega)
  have hM1 := g3 (max n1 N + 1) (by omega)
  have key2 : ∀ n t h, loopR (a.run D (drR D) (max n1 N)) n t h ≠ .bad → loopR (a.run D (drR D) (max n1 N + 1)) n t h = loopR (a.run D (drR D) (max n1 N)) n t h := by
    intro n
    induction n with
    | zero => intro t h hb; exact absurd rfl hb
    | succ n ih =>
      intro t h hb
      have e2 : ∀ (f : List AV → Hp X → R X) n t h, loopR f (n + 1) t h = seqR (f t h) (loopR f n) := fun _ _ _ _ => rfl
      rw [e2] at hb
      rw [e2, e2]
      obtain ⟨S2, h5⟩ := bc_fin (b := a) (D := D) (N := max n1 N) (t := t) (h := h) (seqR_bad hb)
      rw [h5 D (max n1 N + 1) (Nat.le_succ _) (fun _ _ _ => rfl)]
      cases hr : a.run D (drR D) (max n1 N) t h with
      | norm t' h' => rw [hr] at hb; exact ih t' h' hb
      | _ => rfl
  rw [key2 _ _ _ (by rw [hM]; exact h0), hM]
theorem goes_loop_left {a : BC} {t : List AV} {h : Hp X} {r : R X} (hr : r.left) (H1 : Goes D a t h r) : Goes D (.loop a) t h r := by
  obtain ⟨n1, g1⟩ := H1.le
  refine ⟨H1.1, n1 + 1, ?_⟩
  show seqR (a.run D (drR D) (n1 + 1) t h) (loopR (a.run D (drR D) (n1 + 1)) n1) = r
  rw [g1 _ (by omega)]
  cases r <;> first | exact hr.elim | rfl
theorem lim_go {E : Nat → Option (Ent X)} (hE : ∀ f e, E f = some e → e.plain) {f : Nat} {b : BF} (hf : E f = some (.bc b)) {a : List AV} {h : Hp X} {r : R X} (hl : Nat.ble a.length b.nt = true) (H : Goes (lim E) b.body (b.keep.map fun d => getS a d) h r) (hr : finR b.res r ≠ .bad) : lim E f a h = finR b.res r := by
  obtain ⟨g0, N, g1⟩ := H
  have e : b.run (fun D => drR D) N (lim E) a h = finR b.res r := by
    show (bif Nat.ble a.length b.nt then finR b.res (b.body.run (lim E) (drR (lim E)) N (b.keep.map fun d => getS a d) h) else .bad) = _
    rw [hl, g1]
    rfl
  rw [lim_bc hE hf (N := N) (by rw [e]; exact hr), e]
end
end Am
end Go.Proofs.Ytkgplkddpigagaa
namespace Go.Proofs.Ytkgplkddpigagaa
namespace Am
open Go.RowKit
set_option maxRecDepth 10000
section
variable {X : Type}
theorem ble_t {a b : Nat} (h : a ≤ b) : Nat.ble a b = true := Nat.ble_eq_true_of_le h
theorem rowOf_get {h h' : Hp X} {g : Nat} (e : h'.get g = h.get g) : rowOf h' g = rowOf h g := by unfold rowOf; rw [e]
theorem rowOf_rw {h : Hp X} {g : Nat} {l : List AV} (e : h.get g = some (.rw l)) : rowOf h g = some l := by unfold rowOf; rw [e]
@[simp] theorem push_n (h : Hp X) (c : AB X) : (h.push c).n = h.n + 1 := rfl
@[simp] theorem put_n (h : Hp X) (g : Nat) (c : AB X) : (h.put g c).n = h.n := rfl
@[simp] theorem del_n (h : Hp X) (g : Nat) : (h.del g).n = h.n := rfl
structure Keep (S : Nat → Prop) (h h' : Hp X) : Prop where
  n : h.n ≤ h'.n
  get : ∀ g, g < h.n → ¬ S g → h'.get g = h.get g
def NoB : Nat → Prop := fun _ => False
def OneB (g : Nat) : Nat → Prop := fun k => k = g
theorem Keep.refl (S : Nat → Prop) (h : Hp X) : Keep S h h := ⟨Nat.le_refl _, fun _ _ _ => rfl⟩
theorem Keep.trans {S T : Nat → Prop} {h h1 h2 : Hp X} (a : Keep S h h1) (b : Keep T h1 h2) (hT : ∀ g, g < h.n → T g → S g) : Keep S h h2 :=
  ⟨Nat.le_trans a.n b.n, fun g hg hs => by rw [b.get g (Nat.lt_of_lt_of_le hg a.n) (fun ht => hs (hT g hg ht)), a.get g hg hs]⟩
theorem Keep.mono {S T : Nat → Prop} {h h1 : Hp X} (a : Keep S h h1) (hs : ∀ g, g < h.n → S g → T g) : Keep T h h1 := ⟨a.n, fun g hg ht => a.get g hg fun q => ht (hs g hg q)⟩
theorem Keep.push (S : Nat → Prop) (h : Hp X) (c : AB X) : Keep S h (h.push c) := ⟨Nat.le_succ _, fun g hg _ => Hp.push_ne h c (by omega)⟩
theorem Keep.put (h : Hp X) (g : Nat) (c : AB X) {S : Nat → Prop} (hs : S g) : Keep S h (h.put g c) := ⟨Nat.le_refl _, fun k _ hk => Hp.put_ne h g c (fun e => hk (e ▸ hs))⟩
theorem Keep.del (h : Hp X) (g : Nat) {S : Nat → Prop} (hs : S g) : Keep S h (h.del g) := ⟨Nat.le_refl _, fun k _ hk => Hp.del_ne h g (fun e => hk (e ▸ hs))⟩
def blk (v : AV) : Nat → Prop := match v with | .slice _ g _ _ _ => OneB g | .ptr g _ => OneB g | _ => NoB
def RS (h : Hp X) (z : Nat) (v : AV) (n : Nat) (cells : List AV) : Prop :=
  match v with
  | .snil => n = 0 ∧ cells = []
  | .semp => n = 0 ∧ cells = []
  | .slice z' g o n' _ => z' = z ∧ n' = n ∧ g < h.n ∧ ∃ l, rowOf h g = some l ∧ o + n * z ≤ l.length ∧ cells = (l.drop o).take (n * z)
  | _ => False
theorem RS.keep {S : Nat → Prop} {h h' : Hp X} {z n : Nat} {v : AV} {cells : List AV} (a : RS h z v n cells) (k : Keep S h h') (hs : ∀ g, blk v g → ¬ S g) : RS h' z v n cells := by
  cases v <;> first | exact a | skip
  obtain ⟨h1, h2, h3, l, h4, h5⟩ := a
  exact ⟨h1, h2, Nat.lt_of_lt_of_le h3 k.n, l, by rw [rowOf_get (k.get _ h3 (hs _ rfl))]; exact h4, h5⟩
theorem RS.len {h : Hp X} {z n : Nat} {v : AV} {cells : List AV} (a : RS h z v n cells) : cells.length = n * z := by
  cases v <;> first | exact a.elim | skip
  · obtain ⟨_, _, _, l, _, h5, rfl⟩ := a
    rw [List.length_take, List.length_drop]
    omega
  · obtain ⟨rfl, rfl⟩ := a; simp
  · obtain ⟨rfl, rfl⟩ := a; simp
theorem RS.lt {h : Hp X} {z n : Nat} {v : AV} {cells : List AV} (a : RS h z v n cells) : ∀ g, blk v g → g < h.n := by
  intro g hg
  cases v <;> first | exact a.elim | exact hg.elim | skip
  obtain ⟨_, _, h3, _⟩ := a
  cases hg
  exact h3
theorem RS.elems {h : Hp X} {z n : Nat} {v : AV} {cells : List AV} (a : RS h z v n cells) : elems h z v = some (n, cells) := by
  cases v <;> first | exact a.elim | skip
  · obtain ⟨rfl, rfl, _, l, h4, h5, rfl⟩ := a
    unfold Am.elems takeN
    simp only [Nat.beq_refl, cond_true, h4, ble_t h5]
  · obtain ⟨rfl, rfl⟩ := a; rfl
  · obtain ⟨rfl, rfl⟩ := a; rfl
def OS (h : Hp X) (z : Nat) (v : AV) (n : Nat) (cells : List AV) : Prop :=
  match v with
  | .snil => n = 0 ∧ cells = []
  | .slice z' g o n' cap => z' = z ∧ n' = n ∧ 0 < z ∧ g < h.n ∧ ∃ l, h.get g = some (.rw l) ∧ o + n * z ≤ l.length ∧ cells = (l.drop o).take (n * z) ∧ (match cap with | none => True | some k => n ≤ k ∧ o + k * z ≤ l.length)
  | _ => False
theorem OS.rs {h : Hp X} {z n : Nat} {v : AV} {cells : List AV} (a : OS h z v n cells) : RS h z v n cells := by
  cases v <;> first | exact a | exact a.elim | skip
  obtain ⟨h1, h2, _, h3, l, h4, h5, h6, _⟩ := a
  exact ⟨h1, h2, h3, l, rowOf_rw h4, h5, h6⟩
theorem OS.keep {S : Nat → Prop} {h h' : Hp X} {z n : Nat} {v : AV} {cells : List AV} (a : OS h z v n cells) (k : Keep S h h') (hs : ∀ g, blk v g → ¬ S g) : OS h' z v n cells := by
  cases v <;> first | exact a | skip
  obtain ⟨h1, h2, h0, h3, l, h4, h5⟩ := a
  exact ⟨h1, h2, h0, Nat.lt_of_lt_of_le h3 k.n, l, by rw [k.get _ h3 (hs _ rfl)]; exact h4, h5⟩
theorem OS.lt {h : Hp X} {z n : Nat} {v : AV} {cells : List AV} (a : OS h z v n cells) : ∀ g, blk v g → g < h.n := a.rs.lt
theorem OS.len {h : Hp X} {z n : Nat} {v : AV} {cells : List AV} (a : OS h z v n cells) : cells.length = n * z := a.rs.len
theorem spl_take {off k : Nat} {vs l : List AV} (h1 : off + k = off + k) (hl : off + k + vs.length ≤ l.length) {o : Nat} (ho : o + 0 = off) : ((spl (off + k) vs l).drop o).take (k + vs.length) = (l.drop o).take k ++ vs := by
  have e : o = off := by omega
  subst e
  unfold spl
  have h2 : (List.take (o + k) l).length = o + k := by rw [List.length_take]; omega
  rw [List.drop_append_of_le_length (by omega), List.take_append, List.drop_take, List.length_take, List.length_drop]
  have e1 : o + k - o = k := by omega
  rw [e1]
  have e2 : min k (l.length - o) = k := by omega
  rw [e2, List.take_take]
  have e3 : min (k + vs.length) k = k := by omega
  have e4 : k + vs.length - k = vs.length := by omega
  rw [e3, e4, List.take_append_of_le_length (Nat.le_refl _), List.take_length]
theorem spl_len2 {off : Nat} {vs l : List AV} (h : off + vs.length ≤ l.length) : (spl off vs l).length = l.length := by
  unfold spl
  simp only [List.length_append, List.length_take, List.length_drop]
  omega
theorem OS.app {h : Hp X} {z by' n m : Nat} {v : AV} {cells vs : List AV} (a : OS h z v n cells) (hz : 0 < z) (hv : vs.length = m * z) (h1 : (n + m) * by' ≤ 140737488355328) (h2 : n + m ≤ maxLen) :
    ∃ v' h', appA h z by' v m vs = some (v', h') ∧ OS h' z v' (n + m) (cells ++ vs) ∧ Keep (blk v) h h' ∧ (∀ g, blk v' g → blk v g ∨ h.n ≤ g) := by
  by_cases hm : m = 0
  · subst hm
    have hv0 : vs = [] := List.eq_nil_of_length_eq_zero (by simpa using hv)
    subst hv0
    refine ⟨v, h, ?_, by simpa using a, Keep.refl _ _, fun g hg => .inl hg⟩
    unfold appA
    cases v <;> first | exact a.elim | rfl
  · have hm' : Nat.beq m 0 = false := nbeq hm
    cases v <;> first | exact a.elim | skip
    · rename_i z' g o n' cap
      obtain ⟨rfl, rfl, _, hg, l, hl, hlen, rfl, hcap⟩ := a
      have hc : (Nat.beq z' z' && Nat.ble ((n' + m) * by') 140737488355328 && Nat.ble (n' + m) maxLen) = true := by rw [Nat.beq_refl, ble_t h1, ble_t h2]; rfl
      have hmz : (n' + m) * z' = n' * z' + m * z' := Nat.add_mul ..
      have inpl : o + (n' + m) * z' ≤ l.length → ∀ cap' : Option Nat, (match cap' with | none => True | some k => n' + m ≤ k ∧ o + k * z' ≤ l.length) →
          OS (h.put g (.rw (spl (o + n' * z') vs l))) z' (.slice z' g o (n' + m) cap') (n' + m) ((l.drop o).take (n' * z') ++ vs) := fun hle cap' hc' => by
        have hs := spl_len2 (off := o + n' * z') (vs := vs) (l := l) (by omega)
        refine ⟨rfl, rfl, hz, hg, _, Hp.put_self _ _ _, by rw [hs]; exact hle, ?_, ?_⟩
        · rw [hmz, ← hv]
          exact (spl_take (o := o) (off := o) (k := n' * z') (vs := vs) (l := l) rfl (by omega) (by omega)).symm
        · cases cap' with
          | none => trivial
          | some k => exact ⟨hc'.1, by rw [hs]; exact hc'.2⟩
      have copy : ∀ h0 : Hp X, h0.n = h.n → OS (h0.push (.rw ((l.drop o).take (n' * z') ++ vs))) z' (.slice z' h0.n 0 (n' + m) none) (n' + m) ((l.drop o).take (n' * z') ++ vs) := fun h0 e0 => by
        have hl2 : ((l.drop o).take (n' * z') ++ vs).length = (n' + m) * z' := by rw [List.length_append, List.length_take, List.length_drop, hv]; omega
        refine ⟨rfl, rfl, hz, Nat.lt_succ_self _, _, Hp.push_self _ _, by omega, ?_, trivial⟩
        rw [← hl2, List.drop_zero, List.take_length]
      have htk : takeN (n' * z') o l = some ((l.drop o).take (n' * z')) := by unfold takeN; rw [ble_t hlen]; rfl
      unfold appA
      rw [hm']
      simp only [cond_false, hc, Bool.not_true]
      cases cap with
      | some k =>
        simp only at hcap ⊢
        cases hb : Nat.ble (n' + m) k with
        | true =>
          have hb := Nat.le_of_ble_eq_true hb
          have hkz : (n' + m) * z' ≤ k * z' := Nat.mul_le_mul_right _ hb
          simp only [cond_true, hl]
          rw [ble_t (show o + (n' + m) * z' ≤ l.length by omega)]
          exact ⟨_, _, rfl, inpl (by omega) (some k) ⟨hb, hcap.2⟩, Keep.put _ _ _ rfl, fun g' hg' => .inl hg'⟩
        | false =>
          simp only [cond_false, rowOf_rw hl, htk]
          exact ⟨_, _, rfl, copy h rfl, Keep.push _ _ _, fun g' hg' => .inr (by cases hg'; exact Nat.le_refl _)⟩
      | none =>
        simp only [hl]
        cases hb : Nat.ble (o + (n' + m) * z') l.length with
        | true =>
          simp only [cond_true]
          exact ⟨_, _, rfl, inpl (Nat.le_of_ble_eq_true hb) none trivial, Keep.put _ _ _ rfl, fun g' hg' => .inl hg'⟩
        | false =>
          simp only [cond_false, htk]
          refine ⟨_, _, rfl, copy (h.del g) rfl, (Keep.del (S := blk (.slice z' g o n' none)) h g rfl).trans (Keep.push NoB _ _) (fun _ _ q => q.elim), fun g' hg' => .inr (by cases hg'; exact Nat.le_refl _)⟩
    · obtain ⟨rfl, rfl⟩ := a
      unfold appA
      rw [hm']
      rw [Nat.zero_add] at h1 h2
      simp only [cond_false, ble_t h1, ble_t h2, Bool.and_self, cond_true]
      refine ⟨_, _, rfl, ⟨rfl, by omega, hz, Nat.lt_succ_self _, vs, Hp.push_self _ _, by rw [Nat.zero_add, Nat.zero_add, hv]; exact Nat.le_refl _, ?_, trivial⟩, Keep.push _ _ _, fun g' hg' => .inr (by cases hg'; exact Nat.le_refl _)⟩
      rw [Nat.zero_add, ← hv, List.drop_zero, List.take_length, List.nil_append]
end
end Am
end Go.Proofs.Ytkgplkddpigagaa
namespace Go.Proofs.Ytkgplkddpigagaa
namespace Am
open Go.RowKit
set_option maxRecDepth 10000
section
variable {X : Type} {D : Dp X}
structure WR (D : Dp X) (l : List St1) (e : En) (t : List AV) (h : Hp X) (Q : R X → Prop) : Prop where
  out : ∃ r, runRg D l e t h = r ∧ r ≠ .bad ∧ Q r
structure WB (D : Dp X) (b : BC) (t : List AV) (h : Hp X) (Q : R X → Prop) : Prop where
  out : ∃ r, Goes D b t h r ∧ Q r
structure WF (D : Dp X) (f : Nat) (args : List AV) (h : Hp X) (Q : AV → Hp X → Prop) : Prop where
  out : ∃ v h', D f args h = .ret v h' ∧ Q v h'
theorem WF.mono {f : Nat} {args : List AV} {h : Hp X} {Q Q' : AV → Hp X → Prop} (a : WF D f args h Q) (k : ∀ v h', Q v h' → Q' v h') : WF D f args h Q' := let ⟨v, h', e, q⟩ := a.out; ⟨⟨v, h', e, k _ _ q⟩⟩
theorem WB.mono {b : BC} {t : List AV} {h : Hp X} {Q Q' : R X → Prop} (a : WB D b t h Q) (k : ∀ r, Q r → Q' r) : WB D b t h Q' := let ⟨r, g, q⟩ := a.out; ⟨⟨r, g, k _ q⟩⟩
section
variable {l : List St1} {e : En} {t : List AV} {h : Hp X} {Q : R X → Prop}
theorem wr_heap {h' : Hp X} (he : h = h') (H : WR D l e t h' Q) : WR D l e t h Q := by rw [he]; exact H
theorem BR (q : Q (.norm t h)) : WR D [] e t h Q := ⟨⟨_, rfl, (fun e => by cases e), q⟩⟩
theorem v_neq_t {q : Eq} {x y : Od} {k : IntKind} {a b : Int} (hx : x.ev e t = .int k a) (hy : y.ev e t = .int k b) (hc : (a ≠ b)) : (Mv.bin .neq q x y).ev e t h = some (.bool true) := by simp [Mv.ev, hx, hy, Am.bin, AV.onInt, intOp, isShift]; exact hc
theorem v_neq_f {q : Eq} {x y : Od} {k : IntKind} {a b : Int} (hx : x.ev e t = .int k a) (hy : y.ev e t = .int k b) (hc : ¬ (a ≠ b)) : (Mv.bin .neq q x y).ev e t h = some (.bool false) := by simp [Mv.ev, hx, hy, Am.bin, AV.onInt, intOp, isShift]; omega
theorem wr64 {n : Int} (h : -9223372036854775808 ≤ n ∧ n < 9223372036854775808) : wr .i64 n = n := by
  obtain ⟨h1, h2⟩ := h
  rcases (show n < 0 ∨ 0 ≤ n by omega) with hn | hn
  · have e : n % 2 ^ 64 = n + 2 ^ 64 := by omega
    simp only [wr, IntKind.wrap, IntKind.signed, IntKind.bits, e]
    simp
    omega
  · have e : n % 2 ^ 64 = n := by omega
    simp only [wr, IntKind.wrap, IntKind.signed, IntKind.bits, e]
    simp
    omega
theorem BG (H : WR D l e t h Q) : WR D l e t h Q := H
theorem BK {j : Od × Bool} {d : Ds} {o : Op1} (H : WR D (.mk (some j) d o :: l) e t h Q) : WR D (.mk (some j) d o :: l) e t h Q := H
theorem BI {d : Ds} {x : Od} (H : WR D (.mk none d (.mov (.mv x)) :: l) e t h Q) : WR D (.mk none d (.mov (.mv x)) :: l) e t h Q := H
theorem BH {d : Ds} {m : Mv} (H : WR D (.mk none d (.mov m) :: l) e t h Q) : WR D (.mk none d (.mov m) :: l) e t h Q := H
theorem BJ {d : Ds} {op : BinOp} {q : Eq} {x y : Od} (H : WR D (.mk none d (.mov (.bin op q x y)) :: l) e t h Q) : WR D (.mk none d (.mov (.bin op q x y)) :: l) e t h Q := H
theorem BL {d : Ds} {m : Ef} (H : WR D (.mk none d (.eff m) :: l) e t h Q) : WR D (.mk none d (.eff m) :: l) e t h Q := H
theorem wr_eff_e {k : Nat} {m : Ef} {v : AV} {h' : Hp X} (hm : m.ev e t h = some (v, h')) (H : WR D l ((k, v) :: e) t h' Q) : WR D (.mk none (.env k) (.eff m) :: l) e t h Q := by
  obtain ⟨r, h1, h2, h3⟩ := H.out
  refine ⟨⟨r, ?_, h2, h3⟩⟩
  simp only [runRg, gdv, gdR, Op1.run, hm, stepR]
  exact h1
theorem wr_app_e {k z by' : Nat} {x y : Od} {v w : AV} {n m : Nat} {cells vs : List AV} (hx : x.ev e t = v) (hy : y.ev e t = w) (ho : OS h z v n cells) (hz : 0 < z) (hw : RS h z w m vs) (h1 : (n + m) * by' ≤ 140737488355328) (h2 : n + m ≤ maxLen)
    (H : ∀ v' h', OS h' z v' (n + m) (cells ++ vs) → Keep (blk v) h h' → (∀ g, blk v' g → blk v g ∨ h.n ≤ g) → WR D l ((k, v') :: e) t h' Q) : WR D (.mk none (.env k) (.eff (.append z by' x y)) :: l) e t h Q := by
  obtain ⟨v', h', e1, e2, e3, e4⟩ := ho.app hz hw.len h1 h2
  exact wr_eff_e (by simp only [Ef.ev, hy, hw.elems, hx, e1]) (H v' h' e2 e3 e4)
theorem v_ld1 {x : Od} {g o : Nat} {l : List AV} {v : AV} (hx : x.ev e t = .ptr g o) (hg : h.get g = some (.rw l)) (hv : l[o]? = some v) : (Mv.ld1 x).ev e t h = some v := by
  simp only [Mv.ev, hx, AV.onPtr, rowOf_rw hg]
  rw [getN_eq]
  exact hv
theorem ef_store1 {a x : Od} {g o : Nat} {l : List AV} {v : AV} (ha : a.ev e t = .ptr g o) (hx : x.ev e t = v) (hv : cellsOf v = some [v] ∧ v.one = true) (hg : h.get g = some (.rw l)) (ho : o < l.length) : (Ef.store 1 a x).ev e t h = some (.bot, h.put g (.rw (spl o [v] l))) := by
  have h1 : allOne [v] = true := by
    unfold allOne
    cases v <;> first | (cases hv.2; done) | rfl
  simp only [Ef.ev, ha, hx, hv.1, h1, Bool.true_and, hg]
  rw [show Nat.beq [v].length 1 = true from rfl]
  simp only [cond_true]
  rw [ble_t (show o + 1 ≤ l.length by omega)]
  rfl
theorem ef_storeN {n : Nat} {a x : Od} {g o : Nat} {l vs : List AV} (ha : a.ev e t = .ptr g o) (hx : x.ev e t = .agg vs) (hall : allOne vs = true) (hn : vs.length = n) (hg : h.get g = some (.rw l)) (ho : o + n ≤ l.length) : (Ef.store n a x).ev e t h = some (.bot, h.put g (.rw (spl o vs l))) := by
  simp only [Ef.ev, ha, hx, cellsOf, hall, Bool.true_and, hg]
  rw [hn, Nat.beq_refl]
  simp only [cond_true]
  rw [ble_t ho]
  rfl
theorem v_ldn {n : Nat} {x : Od} {g o : Nat} {l : List AV} (hx : x.ev e t = .ptr g o) (hg : h.get g = some (.rw l)) (ho : o + n ≤ l.length) : (Mv.ldn n x).ev e t h = some (.agg ((l.drop o).take n)) := by
  simp only [Mv.ev, hx, AV.onPtr, rowOf_rw hg]
  unfold takeN
  rw [ble_t ho]
  rfl
theorem wr_call_e {k f : Nat} {xs : List Od} {args : List AV} (ha : (xs.map fun x => x.ev e t) = args) (H : WF D f args h fun v h' => WR D l ((k, v) :: e) t h' Q) : WR D (.mk none (.env k) (.call f xs) :: l) e t h Q := by
  obtain ⟨v, h', hf, ⟨r, h1, h2, h3⟩⟩ := H.out
  subst ha
  refine ⟨⟨r, ?_, h2, h3⟩⟩
  simp only [runRg, gdv, gdR, Op1.run, hf, stepR]
  exact h1
theorem wr_call_s {k f : Nat} {xs : List Od} {args : List AV} (ha : (xs.map fun x => x.ev e t) = args) (H : WF D f args h fun v h' => WR D l e (setS t k v) h' Q) : WR D (.mk none (.slot k) (.call f xs) :: l) e t h Q := by
  obtain ⟨v, h', hf, ⟨r, h1, h2, h3⟩⟩ := H.out
  subst ha
  refine ⟨⟨r, ?_, h2, h3⟩⟩
  simp only [runRg, gdv, gdR, Op1.run, hf, stepR]
  exact h1
theorem BS {j : Od} {want b : Bool} {d : Ds} {o : Op1} (hj : j.ev e t = .bool b) (hb : b = want) (H : WR D (.mk none d o :: l) e t h Q) : WR D (.mk (some (j, want)) d o :: l) e t h Q := by
  obtain ⟨r, h1, h2, h3⟩ := H.out
  refine ⟨⟨r, ?_, h2, h3⟩⟩
  subst hb
  simp only [runRg, gdv, hj, beq_self_eq_true]
  exact h1
theorem BT {j : Od} {want b : Bool} {k : Nat} {o : Op1} (hj : j.ev e t = .bool b) (hb : (b == want) = false) (H : WR D l ((k, .tup []) :: e) t h Q) : WR D (.mk (some (j, want)) (.env k) o :: l) e t h Q := by
  obtain ⟨r, h1, h2, h3⟩ := H.out
  refine ⟨⟨r, ?_, h2, h3⟩⟩
  simp only [runRg, gdv, hj, hb, gdR]
  exact h1
theorem BU {j : Od} {want : Bool} {k : Nat} {o : Op1} {u : List AV} (hj : j.ev e t = .tup u) (H : WR D l ((k, .tup []) :: e) t h Q) : WR D (.mk (some (j, want)) (.env k) o :: l) e t h Q := by
  obtain ⟨r, h1, h2, h3⟩ := H.out
  refine ⟨⟨r, ?_, h2, h3⟩⟩
  simp only [runRg, gdv, hj, gdR]
  exact h1
end
structure WD (D : Dp X) (l : Dr) (past : List (Pa X)) (e : En) (t : List AV) (h : Hp X) (Q : R X → Prop) : Prop where
  out : ∃ t' h', drGo D l past e t h = .norm t' h' ∧ Q (.norm t' h')
section
variable {l : Dr} {past : List (Pa X)} {e : En} {t : List AV} {h : Hp X} {Q : R X → Prop}
theorem BX (H : WD D l past e t h Q) : WD D l past e t h Q := H
theorem BZ {g : Option (Od × Bool)} {d : Ds} {op : BinOp} {q : Eq} {x y : Od} {c : List Nat} (H : WD D ((.mk g d (.mov (.bin op q x y)), c) :: l) past e t h Q) : WD D ((.mk g d (.mov (.bin op q x y)), c) :: l) past e t h Q := H
theorem CD (q : Q (.norm t h)) : WD D [] past e t h Q := ⟨⟨_, _, rfl, q⟩⟩
theorem wd_call_e {k f : Nat} {xs : List Od} {chk : List Nat} {args : List AV} (ha : (xs.map fun x => x.ev e t) = args) (H : WF D f args h fun v h' => chkAll h' past chk = true ∧ WD D l (past ++ [.skip]) ((k, v) :: e) t h' Q) : WD D ((.mk none (.env k) (.call f xs), chk) :: l) past e t h Q := by
  obtain ⟨v, h1', hf, hc, ⟨t', h', h1, h2⟩⟩ := H.out
  subst ha
  refine ⟨⟨t', h', ?_, h2⟩⟩
  simp only [drGo, gdv, St1.g, St1.o, St1.d, Op1.run, hf, paOf, hc, cond_true]
  exact h1
end
section
variable {a b : BC} {t : List AV} {h : Hp X} {Q : R X → Prop}
theorem AD {l : List St1} (H : WR D l [] t h Q) : WB D (.reg l) t h Q := let ⟨r, h1, h2, h3⟩ := H.out; ⟨⟨r, goes_reg h2 h1, h3⟩⟩
theorem AE {l : Dr} (H : WD D l [] [] t h Q) : WB D (.dreg l) t h Q := by
  obtain ⟨t', h', h1, h2⟩ := H.out
  exact ⟨⟨_, goes_dreg (r := .norm t' h') (fun e => by cases e) (by unfold drR; rw [h1]; rfl), h2⟩⟩
theorem AI (q : Q (.norm t h)) : WB D .skip t h Q := ⟨⟨_, goes_skip, q⟩⟩
theorem AJ (q : Q (.ret t h)) : WB D .ret t h Q := ⟨⟨_, goes_ret, q⟩⟩
theorem AK {k : Nat} (q : Q (.brk k t h)) : WB D (.exit k) t h Q := ⟨⟨_, goes_exit, q⟩⟩
structure thenR (D : Dp X) (b : BC) (Q : R X → Prop) (r : R X) : Prop where
  out : match r with | .norm t h => WB D b t h Q | r => Q r
theorem AA (H : WB D b t h Q) : thenR D b Q (.norm t h) := ⟨H⟩
theorem AL (q : Q (.ret t h)) : thenR D b Q (.ret t h) := ⟨q⟩
theorem AM {k : Nat} (q : Q (.brk k t h)) : thenR D b Q (.brk k t h) := ⟨q⟩
theorem AC (H : WB D a t h (thenR D b Q)) : WB D (.seq a b) t h Q := by
  obtain ⟨r, h1, h2⟩ := H.out
  cases r with
  | norm t' h' => obtain ⟨r2, h3, h4⟩ := (show WB D b t' h' Q from h2.out).out; exact ⟨⟨r2, goes_seq h1 h3, h4⟩⟩
  | bad => exact absurd rfl h1.1
  | _ => exact ⟨⟨_, goes_seq_left (by exact True.intro) h1, h2.out⟩⟩
theorem AF {x : Od} {c : Bool} (hx : x.ev [] t = .bool c) (hc : c = true) (H : WB D a t h Q) : WB D (.cond x a b) t h Q := let ⟨r, h1, h2⟩ := H.out; ⟨⟨r, goes_true (by rw [hx, hc]) h1, h2⟩⟩
theorem AG {x : Od} {c : Bool} (hx : x.ev [] t = .bool c) (hc : c = false) (H : WB D b t h Q) : WB D (.cond x a b) t h Q := let ⟨r, h1, h2⟩ := H.out; ⟨⟨r, goes_false (by rw [hx, hc]) h1, h2⟩⟩
structure outR (id : Nat) (Q : R X → Prop) (r : R X) : Prop where
  out : match r with | .brk k t h => if k = id then Q (.norm t h) else Q (.brk k t h) | r => Q r
theorem AN {id : Nat} (q : Q (.norm t h)) : outR id Q (.norm t h) := ⟨q⟩
theorem AO {id : Nat} (q : Q (.ret t h)) : outR id Q (.ret t h) := ⟨q⟩
theorem AP {id : Nat} (q : Q (.norm t h)) : outR id Q (.brk id t h) := ⟨by simp only [if_true]; exact q⟩
theorem AQ {id k : Nat} (hk : Nat.beq k id = false) (q : Q (.brk k t h)) : outR id Q (.brk k t h) := by
  have : k ≠ id := fun e => by rw [e, Nat.beq_refl] at hk; cases hk
  exact ⟨by simp only [if_neg this]; exact q⟩
theorem AH {id : Nat} (H : WB D a t h (outR id Q)) : WB D (.block id a) t h Q := by
  obtain ⟨r, h1, h2⟩ := H.out
  cases r with
  | brk k t' h' =>
    have h2 := h2.out
    simp only at h2
    by_cases hk : k = id
    · rw [if_pos hk] at h2
      refine ⟨⟨_, goes_block h1 ?_, ?_⟩⟩
      · simp [blockR, hk]
      · simpa [blockR, hk] using h2
    · rw [if_neg hk] at h2
      refine ⟨⟨_, goes_block h1 ?_, ?_⟩⟩
      · simp [blockR, nbeq hk]
      · simpa [blockR, nbeq hk] using h2
  | bad => exact absurd rfl h1.1
  | norm => exact ⟨⟨_, goes_block h1 (by simp [blockR]), h2.out⟩⟩
  | ret => exact ⟨⟨_, goes_block h1 (by simp [blockR]), h2.out⟩⟩
  | panic => exact ⟨⟨_, goes_block h1 (by simp [blockR]), h2.out⟩⟩
structure roundR (I : Nat → List AV → Hp X → Prop) (n : Nat) (Q : R X → Prop) (r : R X) : Prop where
  out : match r with | .norm t' h' => ∃ n', n' < n ∧ I n' t' h' | r => Q r
theorem round_norm {I : Nat → List AV → Hp X → Prop} {n : Nat} (n' : Nat) (hn : n' < n) (q : I n' t h) : roundR I n Q (.norm t h) := ⟨⟨n', hn, q⟩⟩
theorem AR {I : Nat → List AV → Hp X → Prop} {n : Nat} (q : Q (.ret t h)) : roundR I n Q (.ret t h) := ⟨q⟩
theorem AS {I : Nat → List AV → Hp X → Prop} {n k : Nat} (q : Q (.brk k t h)) : roundR I n Q (.brk k t h) := ⟨q⟩
theorem wb_loop (I : Nat → List AV → Hp X → Prop) (H : ∀ n t h, I n t h → WB D a t h (roundR I n Q)) : ∀ n t h, I n t h → WB D (.loop a) t h Q := by
  intro n
  induction n using Nat.strongRecOn with
  | _ n ih =>
    intro t h hi
    obtain ⟨r, h1, h2⟩ := (H n t h hi).out
    cases r with
    | norm t' h' =>
      obtain ⟨n', h3, h4⟩ := h2.out
      obtain ⟨r2, h5, h6⟩ := (ih n' h3 t' h' h4).out
      exact ⟨⟨r2, goes_loop h1 h5, h6⟩⟩
    | bad => exact absurd rfl h1.1
    | _ => exact ⟨⟨_, goes_loop_left (by exact True.intro) h1, h2.out⟩⟩
end
structure finQ (rs : List Rs) (Q : AV → Hp X → Prop) (r : R X) : Prop where
  out : match r with
  | .norm t h => ∃ l, resV t h rs = some l ∧ Q (packA l) h
  | .ret t h => ∃ l, resV t h rs = some l ∧ Q (packA l) h
  | _ => False
theorem AT {rs : List Rs} {Q : AV → Hp X → Prop} {t : List AV} {h : Hp X} {l : List AV} (hl : resV t h rs = some l) (q : Q (packA l) h) : finQ rs Q (.ret t h) := ⟨⟨l, hl, q⟩⟩
theorem AU {rs : List Rs} {Q : AV → Hp X → Prop} {t : List AV} {h : Hp X} {l : List AV} (hl : resV t h rs = some l) (q : Q (packA l) h) : finQ rs Q (.norm t h) := ⟨⟨l, hl, q⟩⟩
theorem wf_bc {E : Nat → Option (Ent X)} (hE : ∀ f e, E f = some e → e.plain) {f : Nat} {b : BF} (hf : E f = some (.bc b)) {args : List AV} {h : Hp X} {Q : AV → Hp X → Prop} (hl : Nat.ble args.length b.nt = true) (H : WB (lim E) b.body (b.keep.map fun d => getS args d) h (finQ b.res Q)) : WF (lim E) f args h Q := by
  obtain ⟨r, h1, h2⟩ := H.out
  cases r with
  | norm t' h' =>
    obtain ⟨l, h3, h4⟩ := h2.out
    exact ⟨⟨_, _, (lim_go hE hf hl h1 (by simp [finR, h3])).trans (by simp [finR, h3]), h4⟩⟩
  | ret t' h' =>
    obtain ⟨l, h3, h4⟩ := h2.out
    exact ⟨⟨_, _, (lim_go hE hf hl h1 (by simp [finR, h3])).trans (by simp [finR, h3]), h4⟩⟩
  | _ => exact h2.out.elim
theorem rs_push {h : Hp X} {z n : Nat} {l : List AV} {cap : Option Nat} (hl : l.length = n * z) : RS (h.push (.rw l)) z (.slice z h.n 0 n cap) n l :=
  ⟨rfl, rfl, Nat.lt_succ_self _, l, rowOf_rw (Hp.push_self _ _), by omega, by rw [List.drop_zero, ← hl, List.take_length]⟩
theorem RS.lenv {h : Hp X} {z n : Nat} {v : AV} {cells : List AV} (a : RS h z v n cells) {e : En} {t : List AV} {x : Od} (hx : x.ev e t = v) : (Mv.lenv x).ev e t h = some (.int .i64 n) := by
  simp only [Mv.ev, hx]
  cases v <;> first | exact a.elim | skip
  · obtain ⟨_, rfl, _⟩ := a; rfl
  · obtain ⟨rfl, _⟩ := a; rfl
  · obtain ⟨rfl, _⟩ := a; rfl
theorem getN_ge {l : List AV} {i : Nat} : getN l i = l[i]? := getN_eq l i
structure WC (D : Dp X) (f : Nat) (args : List AV) (h : Hp X) (Q P : AV → Hp X → Prop) : Prop where
  out : (∃ v h', D f args h = .ret v h' ∧ Q v h') ∨ ∃ v h', D f args h = .panic v h' ∧ P v h'
theorem WC.mono {f : Nat} {args : List AV} {h : Hp X} {Q P Q' P' : AV → Hp X → Prop} (a : WC D f args h Q P) (q : ∀ v h', Q v h' → Q' v h') (p : ∀ v h', P v h' → P' v h') : WC D f args h Q' P' := by
  rcases a.out with ⟨v, h', e, k⟩ | ⟨v, h', e, k⟩
  · exact ⟨.inl ⟨v, h', e, q _ _ k⟩⟩
  · exact ⟨.inr ⟨v, h', e, p _ _ k⟩⟩
end
end Am
end Go.Proofs.Ytkgplkddpigagaa
namespace Go.Proofs.Ytkgplkddpigagaa
namespace Am
open Go.RowKit
set_option maxRecDepth 10000
section
variable {X : Type} {D : Dp X} {l : List St1} {e e' : En} {t t' : List AV} {h h' : Hp X} {Q : R X → Prop}
theorem BV {d : Ds} {m : Mv} {v : AV} (hm : m.ev e t h = some v) (H : WR D l e' t' h Q) (he : putE d v e = e' := by conv => lhs; whnf) (ht : putT d v t = t' := by conv => lhs; whnf) : WR D (.mk none d (.mov m) :: l) e t h Q := by
  subst he ht
  obtain ⟨r, h1, h2, h3⟩ := H.out
  refine ⟨⟨r, ?_, h2, h3⟩⟩
  simp only [runRg, gdv, gdR, Op1.run, hm, stepR]
  exact h1
theorem BW {d : Ds} {m : Ef} {v : AV} (hm : m.ev e t h = some (v, h')) (H : WR D l e' t' h' Q) (he : putE d v e = e' := by conv => lhs; whnf) (ht : putT d v t = t' := by conv => lhs; whnf) : WR D (.mk none d (.eff m) :: l) e t h Q := by
  subst he ht
  obtain ⟨r, h1, h2, h3⟩ := H.out
  refine ⟨⟨r, ?_, h2, h3⟩⟩
  simp only [runRg, gdv, gdR, Op1.run, hm, stepR]
  exact h1
theorem BM {d : Ds} {x : Od} {v : AV} (H : WR D l e' t' h Q) (hx : x.ev e t = v := by conv => lhs; whnf) (he : putE d v e = e' := by conv => lhs; whnf) (ht : putT d v t = t' := by conv => lhs; whnf) : WR D (.mk none d (.mov (.mv x)) :: l) e t h Q :=
  BV (by rw [Mv.ev, hx]) H he ht
def cmpB (op : BinOp) (a b : Int) : Option Bool := match op with | .lss => some (decide (a < b)) | .leq => some (decide (a ≤ b)) | .gtr => some (decide (b < a)) | .geq => some (decide (b ≤ a)) | .eql => some (decide (a = b)) | .neq => some (decide (a ≠ b)) | _ => none
def ariB (op : BinOp) (a b : Int) : Option Int := match op with | .add => some (a + b) | .sub => some (a - b) | .mul => some (a * b) | _ => none
theorem v_cmp {op : BinOp} {q : Eq} {x y : Od} {k : IntKind} {a b : Int} {c : Bool} (hx : x.ev e t = .int k a) (hy : y.ev e t = .int k b) (hc : cmpB op a b = some c) : (Mv.bin op q x y).ev e t h = some (.bool c) := by
  cases op <;> first | (cases hc; done) | skip
  all_goals
    simp only [cmpB, Option.some.injEq] at hc
    subst hc
    simp [Mv.ev, hx, hy, Am.bin, AV.onInt, intOp, isShift]
  · by_cases h : a = b <;> simp [h]
  · by_cases h : a = b <;> simp [h, bne]
theorem v_ari {op : BinOp} {q : Eq} {x y : Od} {a b r : Int} (hx : x.ev e t = .int .i64 a) (hy : y.ev e t = .int .i64 b) (hr : ariB op a b = some r) (hc : -9223372036854775808 ≤ r ∧ r < 9223372036854775808) : (Mv.bin op q x y).ev e t h = some (.int .i64 r) := by
  cases op <;> first | (cases hr; done) | skip
  all_goals
    simp only [ariB, Option.some.injEq] at hr
    subst hr
    simp [Mv.ev, hx, hy, Am.bin, AV.onInt, intOp, isShift, wr64 hc]
theorem BN {d : Ds} {op : BinOp} {q : Eq} {x y : Od} {k : IntKind} {a b : Int} {c : Bool} (H : WR D l e' t' h Q) (hx : x.ev e t = .int k a := by exact rfl) (hy : y.ev e t = .int k b := by exact rfl)
    (hc : cmpB op a b = some c := by first | exact congrArg some (decide_eq_true (by first | assumption | omega)) | exact congrArg some (decide_eq_false (by first | assumption | omega)))
    (he : putE d (.bool c) e = e' := by conv => lhs; whnf) (ht : putT d (.bool c) t = t' := by conv => lhs; whnf) : WR D (.mk none d (.mov (.bin op q x y)) :: l) e t h Q := BV (v_cmp hx hy hc) H he ht
theorem BO {d : Ds} {op : BinOp} {q : Eq} {x y : Od} {a b r : Int} (H : WR D l e' t' h Q) (hx : x.ev e t = .int .i64 a := by exact rfl) (hy : y.ev e t = .int .i64 b := by exact rfl) (hr : ariB op a b = some r := by exact rfl)
    (hc : -9223372036854775808 ≤ r ∧ r < 9223372036854775808 := by first | assumption | omega)
    (he : putE d (.int .i64 r) e = e' := by conv => lhs; whnf) (ht : putT d (.int .i64 r) t = t' := by conv => lhs; whnf) : WR D (.mk none d (.mov (.bin op q x y)) :: l) e t h Q := BV (v_ari hx hy hr hc) H he ht
theorem BP {d : Ds} {m : Mv} {v : AV} (H : WR D l e' t' h Q) (hm : m.ev e t h = some v := by conv => lhs; whnf; arg 1; whnf) (he : putE d v e = e' := by conv => lhs; whnf) (ht : putT d v t = t' := by conv => lhs; whnf) : WR D (.mk none d (.mov m) :: l) e t h Q := BV hm H he ht
theorem BQ {d : Ds} {m : Ef} {v : AV} (H : WR D l e' t' h' Q) (hm : m.ev e t h = some (v, h') := by exact rfl) (he : putE d v e = e' := by conv => lhs; whnf) (ht : putT d v t = t' := by conv => lhs; whnf) : WR D (.mk none d (.eff m) :: l) e t h Q := BW hm H he ht
end
section
variable {X : Type} {D : Dp X} {l : Dr} {past : List (Pa X)} {e e' : En} {t t' : List AV} {h : Hp X} {Q : R X → Prop}
theorem CB {d : Ds} {m : Mv} {v : AV} (hm : m.ev e t h = some v) (H : WD D l (past ++ [.mov m e t v]) e' t' h Q) (he : putE d v e = e' := by conv => lhs; whnf) (ht : putT d v t = t' := by conv => lhs; whnf) : WD D ((.mk none d (.mov m), []) :: l) past e t h Q := by
  subst he ht
  obtain ⟨t', h', h1, h2⟩ := H.out
  refine ⟨⟨t', h', ?_, h2⟩⟩
  simp only [drGo, gdv, St1.g, St1.o, St1.d, Op1.run, hm, paOf, chkAll, cond_true]
  exact h1
theorem CA {d : Ds} {op : BinOp} {q : Eq} {x y : Od} {k : IntKind} {a b : Int} {c : Bool} (H : WD D l (past ++ [.mov (.bin op q x y) e t (.bool c)]) e' t' h Q) (hx : x.ev e t = .int k a := by exact rfl) (hy : y.ev e t = .int k b := by exact rfl)
    (hc : cmpB op a b = some c := by first | exact congrArg some (decide_eq_true (by first | assumption | omega)) | exact congrArg some (decide_eq_false (by first | assumption | omega)))
    (he : putE d (.bool c) e = e' := by conv => lhs; whnf) (ht : putT d (.bool c) t = t' := by conv => lhs; whnf) : WD D ((.mk none d (.mov (.bin op q x y)), []) :: l) past e t h Q := CB (v_cmp hx hy hc) H he ht
theorem CC {d : Ds} {m : Mv} {v : AV} (H : WD D l (past ++ [.mov m e t v]) e' t' h Q) (hm : m.ev e t h = some v := by conv => lhs; whnf; arg 1; whnf) (he : putE d v e = e' := by conv => lhs; whnf) (ht : putT d v t = t' := by conv => lhs; whnf) : WD D ((.mk none d (.mov m), []) :: l) past e t h Q := CB hm H he ht
theorem BY {g : Od × Bool} {d : Ds} {o : Op1} {chk : List Nat} (hg : gdv (some g) e t = some true) (H : WD D ((.mk none d o, chk) :: l) past e t h Q) : WD D ((.mk (some g) d o, chk) :: l) past e t h Q := by
  obtain ⟨t', h', h1, h2⟩ := H.out
  refine ⟨⟨t', h', ?_, h2⟩⟩
  simp only [drGo, St1.g, St1.o, St1.d, hg] at h1 ⊢
  exact h1
end
end Am
end Go.Proofs.Ytkgplkddpigagaa
