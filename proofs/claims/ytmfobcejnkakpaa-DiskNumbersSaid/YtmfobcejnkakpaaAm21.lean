/- The plain machine: its fast form is what it stands for: numbers, places, operations. -/
import Derived.Test.YtmfobcejnkakpaaAm20
namespace Go.Proofs.Ytmfobcejnkakpaa
set_option linter.unusedVariables false
set_option linter.unusedSimpArgs false
namespace Am
open Go.RowKit
set_option maxRecDepth 10000

theorem k_lit_eq {β : Type} (n : Nat) (f : Nat → β) : k_lit n f = f n := by cases n <;> rfl
theorem k_ilit_eq {β : Type} (n : Int) (f : Int → β) : k_ilit n f = f n := by
  cases n with
  | ofNat m => exact k_lit_eq m _
  | negSucc m => exact k_lit_eq m _
theorem k_subNN_eq (m n : Nat) : k_subNN m n = (m : Int) - n := by
  unfold k_subNN
  cases h : Nat.ble n m with
  | true =>
    have := Nat.le_of_ble_eq_true h
    show Int.ofNat (m - n) = _
    rw [Int.ofNat_eq_natCast]
    omega
  | false =>
    have : ¬ n ≤ m := fun hh => by rw [Nat.ble_eq_true_of_le hh] at h; cases h
    show Int.negSucc (n - m - 1) = _
    omega
theorem k_add_eq (a b : Int) : k_add a b = a + b := by
  cases a with
  | ofNat m => cases b with
    | ofNat n => rfl
    | negSucc n =>
      show k_subNN m (n + 1) = _
      rw [k_subNN_eq]; simp only [Int.ofNat_eq_natCast]; omega
  | negSucc m => cases b with
    | ofNat n =>
      show k_subNN n (m + 1) = _
      rw [k_subNN_eq]; simp only [Int.ofNat_eq_natCast]; omega
    | negSucc n => rfl
theorem k_neg_eq (a : Int) : k_neg a = -a := by
  cases a with
  | ofNat m => cases m <;> rfl
  | negSucc m => rfl
theorem k_mul_eq (a b : Int) : k_mul a b = a * b := by
  cases a with
  | ofNat m => cases b with
    | ofNat n => rfl
    | negSucc n =>
      show k_neg (.ofNat (m * (n + 1))) = _
      rw [k_neg_eq]; rfl
  | negSucc m => cases b with
    | ofNat n =>
      show k_neg (.ofNat ((m + 1) * n)) = _
      rw [k_neg_eq]; rfl
    | negSucc n => rfl
theorem k_lt_eq (a b : Int) : k_lt a b = decide (a < b) := by
  rw [Bool.eq_iff_iff, decide_eq_true_iff]
  cases a with
  | ofNat m => cases b with
    | ofNat n => show Nat.blt m n = true ↔ _; rw [Nat.blt_eq]; simp only [Int.ofNat_eq_natCast]; omega
    | negSucc n => show false = true ↔ _; simp only [Int.ofNat_eq_natCast]; constructor; (intro h; cases h); omega
  | negSucc m => cases b with
    | ofNat n => show true = true ↔ _; simp only [Int.ofNat_eq_natCast, true_iff]; omega
    | negSucc n => show Nat.blt n m = true ↔ _; rw [Nat.blt_eq]; omega
theorem k_eqi_eq (a b : Int) : k_eqi a b = (a == b) := by
  rw [Bool.eq_iff_iff, beq_iff_eq]
  cases a with
  | ofNat m => cases b with
    | ofNat n => show Nat.beq m n = true ↔ _; rw [Nat.beq_eq]; simp only [Int.ofNat_eq_natCast]; omega
    | negSucc n => show false = true ↔ _; constructor <;> intro h <;> cases h
  | negSucc m => cases b with
    | ofNat n => show false = true ↔ _; constructor <;> intro h <;> cases h
    | negSucc n => show Nat.beq n m = true ↔ _; rw [Nat.beq_eq]; constructor; (intro h; rw [h]); (intro h; cases h; rfl)
theorem k_nat2_eq {β : Type} {f : Nat → Nat → β} {s : Int → Int → β} (a b : Int) (h : ∀ m n : Nat, f m n = s (.ofNat m) (.ofNat n)) : k_nat2 f s a b = s a b := by
  cases a with
  | ofNat m => cases b with
    | ofNat n => exact h m n
    | negSucc n => rfl
  | negSucc m => rfl
theorem k_wrU_eq {w : Nat} {s : Int → Int} (n : Int) (h : ∀ m : Nat, s (.ofNat m) = .ofNat (m % w)) : k_wrU w s n = s n := by
  cases n with
  | ofNat m => exact (h m).symm
  | negSucc m => rfl
theorem k_wrI_eq {w : Nat} {s : Int → Int} (n : Int) (h : ∀ m : Int, -(w : Int) ≤ m → m < w → s m = m) : k_wrI w s n = s n := by
  cases n with
  | ofNat m =>
    show (Bool.rec (s (.ofNat m)) (.ofNat m) (Nat.blt m w) : Int) = _
    cases hb : Nat.blt m w with
    | false => rfl
    | true =>
      have := (Nat.blt_eq ▸ hb : m < w)
      refine (h _ ?_ ?_).symm <;> simp only [Int.ofNat_eq_natCast] <;> omega
  | negSucc m =>
    show (Bool.rec (s (.negSucc m)) (.negSucc m) (Nat.blt m w) : Int) = _
    cases hb : Nat.blt m w with
    | false => rfl
    | true =>
      have := (Nat.blt_eq ▸ hb : m < w)
      show Int.negSucc m = _
      refine (h _ ?_ ?_).symm <;> omega
theorem k_wr_eq (k : IntKind) (n : Int) : k_wr k n = wr k n := by
  cases k
  case i8 => exact k_wrI_eq n (fun m h1 h2 => by simp only [wr, IntKind.wrap, IntKind.bits, IntKind.signed]; simp; omega)
  case i16 => exact k_wrI_eq n (fun m h1 h2 => by simp only [wr, IntKind.wrap, IntKind.bits, IntKind.signed]; simp; omega)
  case i32 => exact k_wrI_eq n (fun m h1 h2 => by simp only [wr, IntKind.wrap, IntKind.bits, IntKind.signed]; simp; omega)
  case i64 => exact k_wrI_eq n (fun m h1 h2 => by simp only [wr, IntKind.wrap, IntKind.bits, IntKind.signed]; simp; omega)
  case u8 => exact k_wrU_eq n (fun m => by simp only [wr, IntKind.wrap, IntKind.bits, IntKind.signed]; simp)
  case u16 => exact k_wrU_eq n (fun m => by simp only [wr, IntKind.wrap, IntKind.bits, IntKind.signed]; simp)
  case u32 => exact k_wrU_eq n (fun m => by simp only [wr, IntKind.wrap, IntKind.bits, IntKind.signed]; simp)
  case u64 => exact k_wrU_eq n (fun m => by simp only [wr, IntKind.wrap, IntKind.bits, IntKind.signed]; simp)
theorem k_out_eq (k : IntKind) (n : Int) : k_out k n = some (.int k n) := k_ilit_eq n _
theorem k_outw_eq (k : IntKind) (n : Int) : k_outw k n = some (.int k (wr k n)) := by unfold k_outw; rw [k_ilit_eq, k_wr_eq]
theorem k_bool'_eq (b : Bool) : k_bool' b = some (.bool b) := by cases b <;> rfl
theorem k_not_eq (b : Bool) : k_not b = !b := by cases b <;> rfl
theorem k_or_eq (a b : Bool) : k_or a b = (a || b) := by cases a <;> rfl
theorem k_and_eq (a b : Bool) : k_and a b = (a && b) := by cases a <;> rfl
theorem k_beq_eq (a b : Bool) : k_beq a b = (a == b) := by cases a <;> cases b <;> rfl
theorem k_min_eq (a b : Nat) : k_min a b = min a b := by
  unfold k_min
  cases h : Nat.ble a b with
  | true => exact (Nat.min_eq_left (Nat.le_of_ble_eq_true h)).symm
  | false =>
    have : ¬ a ≤ b := fun hh => by rw [Nat.ble_eq_true_of_le hh] at h; cases h
    show b = _
    exact (Nat.min_eq_right (by omega)).symm
theorem k_kind_eq (k k' : IntKind) : Nat.beq (k_kind k) (k_kind k') = decide (k = k') := by cases k <;> cases k' <;> rfl
theorem k_bits_eq (k : IntKind) : k_bits k = k.bits := by cases k <;> rfl
theorem k_pw_eq (k : IntKind) : k_pw k = 2 ^ k.bits := by cases k <;> rfl
theorem k_shift_eq (op : BinOp) : k_shift op = isShift op := by cases op <;> rfl
theorem ofInt_nat (w m : Nat) : (BitVec.ofInt w (.ofNat m)).toNat = m % 2 ^ w := by simp [BitVec.toNat_ofInt]
theorem k_intOp_eq (op : BinOp) (k : IntKind) (a b : Int) : k_intOp op k a b = intOp op k a b := by
  cases op
  case add => show k_outw _ _ = _; rw [k_outw_eq, k_add_eq]; rfl
  case sub => show k_outw _ _ = _; rw [k_outw_eq, k_add_eq, k_neg_eq, ← Int.sub_eq_add_neg]; rfl
  case mul => show k_outw _ _ = _; rw [k_outw_eq, k_mul_eq]; rfl
  case quo =>
    refine k_nat2_eq (s := fun a b => intOp .quo k a b) a b fun m n => ?_
    simp only [intOp]
    cases hn : Nat.beq n 0 with
    | true =>
      have := Nat.eq_of_beq_eq_true hn
      subst this
      rfl
    | false =>
      have : n ≠ 0 := fun e => by subst e; cases hn
      rw [if_neg (by simpa using this)]
      exact k_outw_eq _ _
  case rem =>
    refine k_nat2_eq (s := fun a b => intOp .rem k a b) a b fun m n => ?_
    simp only [intOp]
    cases hn : Nat.beq n 0 with
    | true =>
      have := Nat.eq_of_beq_eq_true hn
      subst this
      rfl
    | false =>
      have : n ≠ 0 := fun e => by subst e; cases hn
      rw [if_neg (by simpa using this)]
      exact k_out_eq _ _
  case and =>
    refine k_nat2_eq (s := fun a b => intOp .and k a b) a b fun m n => ?_
    simp only [intOp, BitVec.toNat_and, ofInt_nat]
    rw [k_pw_eq]
    exact k_outw_eq _ _
  case or =>
    refine k_nat2_eq (s := fun a b => intOp .or k a b) a b fun m n => ?_
    simp only [intOp, BitVec.toNat_or, ofInt_nat]
    rw [k_pw_eq]
    exact k_outw_eq _ _
  case xor =>
    refine k_nat2_eq (s := fun a b => intOp .xor k a b) a b fun m n => ?_
    simp only [intOp, BitVec.toNat_xor, ofInt_nat]
    rw [k_pw_eq]
    exact k_outw_eq _ _
  case shl =>
    refine k_nat2_eq (s := fun a b => intOp .shl k a b) a b fun m n => ?_
    simp only [intOp]
    rw [if_neg (by simp)]
    rw [k_outw_eq, k_bits_eq, k_min_eq]
    congr 3
  case shr =>
    refine k_nat2_eq (s := fun a b => intOp .shr k a b) a b fun m n => ?_
    simp only [intOp]
    rw [if_neg (by simp)]
    rw [k_out_eq, k_bits_eq, k_min_eq]
    have e : ((2 : Int) ^ min n k.bits) = ((2 ^ min n k.bits : Nat) : Int) := by simp
    show some (AV.int k (Int.ofNat (m / 2 ^ min n k.bits))) = some (AV.int k ((Int.ofNat m).fdiv (2 ^ min n k.bits)))
    rw [e, Int.ofNat_eq_natCast, Int.ofNat_eq_natCast, Int.fdiv_eq_ediv_of_nonneg _ (Int.natCast_nonneg _), Int.natCast_ediv]
  case andNot => rfl
  case eql => show k_bool' _ = _; rw [k_bool'_eq, k_eqi_eq]; rfl
  case neq => show k_bool' _ = _; rw [k_bool'_eq, k_not_eq, k_eqi_eq]; rfl
  case lss => show k_bool' _ = _; rw [k_bool'_eq, k_lt_eq]; rfl
  case leq => show k_bool' _ = _; rw [k_bool'_eq, k_not_eq, k_lt_eq]; simp only [intOp]; congr 2; rw [Bool.eq_iff_iff]; simp
  case gtr => show k_bool' _ = _; rw [k_bool'_eq, k_lt_eq]; rfl
  case geq => show k_bool' _ = _; rw [k_bool'_eq, k_not_eq, k_lt_eq]; simp only [intOp]; congr 2; rw [Bool.eq_iff_iff]; simp

-- bytes
theorem k_byte_eq (m : Nat) : k_byte m = UInt8.ofNat m := rfl
theorem k_bn_eq (b : UInt8) : k_bn b = b.toNat := rfl
theorem k_len_eq {α : Type} (l : List α) (a : Nat) : k_len l a = l.length + a := by
  unfold k_len
  induction l generalizing a with
  | nil => simp
  | cons x l ih =>
    show k_lit a _ = _
    rw [k_lit_eq, ih]; simp; omega
theorem k_if_eq {β : Type} (c : Bool) (a : Option β) : k_if c a = bif c then a else none := by cases c <;> rfl
theorem k_some_eq {α β : Type} (x : Option α) (f : α → Option β) : k_some x f = x.bind f := by cases x <;> rfl
theorem k_appS_eq {α β : Type} (l r : List α) (f : List α → β) : k_appS l r f = f (l ++ r) := by
  unfold k_appS
  induction l generalizing f with
  | nil => rfl
  | cons x l ih => exact ih _
theorem k_strEq_eq (a b : List UInt8) : k_strEq a b = (a == b) := by
  unfold k_strEq
  induction a generalizing b with
  | nil => cases b <;> rfl
  | cons x a ih =>
    cases b with
    | nil => rfl
    | cons y b =>
      show (Bool.rec false _ (Nat.beq (k_bn x) (k_bn y)) : Bool) = _
      rw [List.cons_beq_cons]
      cases h : Nat.beq (k_bn x) (k_bn y) with
      | true =>
        have := Nat.eq_of_beq_eq_true h
        have : x = y := UInt8.toNat_inj.1 this
        subst this
        simp only [beq_self_eq_true, Bool.true_and]
        exact ih b
      | false =>
        have : x ≠ y := fun e => by subst e; rw [Nat.beq_refl] at h; cases h
        simp [this]
theorem k_strLt_eq (a b : List UInt8) : k_strLt a b = Op.bytesLess a b := by
  unfold k_strLt
  induction a generalizing b with
  | nil => cases b <;> rfl
  | cons x a ih =>
    cases b with
    | nil => rfl
    | cons y b =>
      show (Bool.rec (Bool.rec false _ (Nat.beq (k_bn x) (k_bn y))) true (Nat.blt (k_bn x) (k_bn y)) : Bool) = _
      rw [Op.bytesLess]
      have hlt : Nat.blt (k_bn x) (k_bn y) = decide (x < y) := by
        rw [Bool.eq_iff_iff, decide_eq_true_iff, Nat.blt_eq, UInt8.lt_iff_toNat_lt]; rfl
      have heq : Nat.beq (k_bn x) (k_bn y) = (x == y) := by
        rw [Bool.eq_iff_iff, beq_iff_eq, Nat.beq_eq, ← UInt8.toNat_inj]; rfl
      rw [hlt, heq, ← ih b]
      cases decide (x < y) <;> cases (x == y) <;> rfl
theorem k_strOp_eq (op : BinOp) (a b : List UInt8) : k_strOp op a b = strOp op a b := by
  cases op <;> first | rfl | skip
  case add =>
    show k_if (Nat.ble (Nat.add (k_len a 0) (k_len b 0)) 8388608) _ = _
    rw [k_if_eq, k_appS_eq, k_len_eq, k_len_eq, strOp]
    cases h : Nat.ble (Nat.add (a.length + 0) (b.length + 0)) 8388608 with
    | true => rw [if_pos (show a.length + b.length ≤ 8388608 from Nat.le_of_ble_eq_true h)]; rfl
    | false =>
      rw [if_neg (fun hh => ?_)]; rfl
      rw [Nat.ble_eq_true_of_le (show Nat.add (a.length + 0) (b.length + 0) ≤ 8388608 from hh)] at h; cases h
  case eql => show k_bool' _ = _; rw [k_bool'_eq, k_strEq_eq]; rfl
  case neq => show k_bool' _ = _; rw [k_bool'_eq, k_not_eq, k_strEq_eq]; rfl
  case lss => show k_bool' _ = _; rw [k_bool'_eq, k_strLt_eq]; rfl
  case leq => show k_bool' _ = _; rw [k_bool'_eq, k_or_eq, k_strLt_eq, k_strEq_eq]; rfl
  case gtr => show k_bool' _ = _; rw [k_bool'_eq, k_not_eq, k_or_eq, k_strLt_eq, k_strEq_eq]; rfl
  case geq => show k_bool' _ = _; rw [k_bool'_eq, k_not_eq, k_strLt_eq]; rfl
theorem k_bin_eq (op : BinOp) (q : Eq) (x y : AV) : k_bin op q x y = bin op q x y := by
  cases x <;> first | rfl | skip
  case int k a =>
    show k_int y _ = _
    rw [k_int_eq]
    simp only [bin]
    cases y <;> first | rfl | skip
    rename_i k' b
    simp only [AV.onInt, k_shift_eq, k_kind_eq, k_intOp_eq]
    cases isShift op <;> cases decide (k = k') <;> rfl
  case str a =>
    show k_str y _ = _
    rw [k_str_eq]
    simp only [bin]
    cases y <;> first | rfl | exact k_strOp_eq _ _ _
end Am
end Go.Proofs.Ytmfobcejnkakpaa
