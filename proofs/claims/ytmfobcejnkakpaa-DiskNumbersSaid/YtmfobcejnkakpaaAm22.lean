/- The plain machine: its fast form is what it stands for: places, rows, operations that write nothing. -/
import Derived.Test.YtmfobcejnkakpaaAm21
namespace Go.Proofs.Ytmfobcejnkakpaa
set_option linter.unusedVariables false
set_option linter.unusedSimpArgs false
namespace Am
open Go.RowKit
set_option maxRecDepth 10000

theorem k_get_eq (l : List AV) (n : Nat) : k_get l n = getS l n := by
  unfold k_get
  induction l generalizing n with
  | nil => rfl
  | cons x l ih => cases n with
    | zero => rfl
    | succ n => exact ih n
theorem k_set_eq {β : Type} (l : List AV) (n : Nat) (v : AV) (f : List AV → β) : k_set l n v f = f (setS l n v) := by
  unfold k_set
  induction l generalizing n f with
  | nil => rfl
  | cons x l ih => cases n with
    | zero => rfl
    | succ n => exact ih n _
theorem k_look_eq (d : Nat) (e : En) : k_look d e = lookE d e := by
  unfold k_look
  induction e with
  | nil => rfl
  | cons p e ih =>
    obtain ⟨k, v⟩ := p
    show (Bool.rec _ v (Nat.beq k d) : AV) = _
    rw [lookE, ← ih]
    cases Nat.beq k d <;> rfl
theorem k_od_eq (x : Od) (e : En) (t : List AV) : k_od x e t = x.ev e t := by
  cases x with
  | slot i => exact k_get_eq _ _
  | env d => exact k_look_eq _ _
  | const v => rfl
theorem k_oev_eq (x : Option Od) (e : En) (t : List AV) : k_oev x e t = oev x e t := by
  cases x with
  | none => rfl
  | some o => show some (k_od o e t) = _; rw [k_od_eq]; rfl
theorem k_getN_eq (l : List AV) (n : Nat) : k_getN l n = getN l n := by
  unfold k_getN
  induction l generalizing n with
  | nil => rfl
  | cons x l ih => cases n with
    | zero => rfl
    | succ n => exact ih n
theorem k_getB_eq (l : List UInt8) (n : Nat) : k_getB l n = l[n]? := by
  unfold k_getB
  induction l generalizing n with
  | nil => rfl
  | cons x l ih => cases n with
    | zero => rfl
    | succ n => rw [List.getElem?_cons_succ]; exact ih n
theorem k_nOf_eq (v : AV) : k_nOf v = nOf v := by
  unfold k_nOf
  rw [k_int_eq]
  cases v <;> first | rfl | skip
  rename_i k n
  cases n <;> rfl
theorem k_slice_eq {β : Type} (v : AV) (f : Nat → Nat → Nat → Nat → Option Nat → Option β) (n : Option β) : k_slice v f n = match v with | .slice z g off len cap => f z g off len cap | .snil => n | _ => none := by cases v <;> rfl
theorem k_slice0_eq {β : Type} (v : AV) (f : Nat → Nat → Nat → Nat → Option Nat → Option β) (n : Option β) : k_slice0 v f n = match v with | .slice z g off len cap => f z g off len cap | .snil => n | .semp => n | _ => none := by cases v <;> rfl
theorem k_fv_eq {β : Type} (v : AV) (f : AV → β) : k_fv v f = f v := by cases v <;> rfl
theorem k_fvd_eq {β : Type} (v : AV) (f : AV → β) : k_fvd v f = f v := by
  cases v <;> first | rfl | skip
  case int k n => exact k_ilit_eq n _
  case ptr g o =>
    show k_lit g _ = _
    rw [k_lit_eq, k_lit_eq]
  case slice z g o n c =>
    show k_lit g _ = _
    rw [k_lit_eq, k_lit_eq, k_lit_eq]
theorem k_ods_eq {β : Type} (xs : List Od) (e : En) (t : List AV) (f : List AV → β) : k_ods xs e t f = f (xs.map fun x => x.ev e t) := by
  unfold k_ods
  induction xs generalizing f with
  | nil => rfl
  | cons x xs ih =>
    show k_fv (k_od x e t) _ = _
    rw [k_fv_eq, k_od_eq]
    exact ih _
theorem k_parts_eq (xs : List (Nat × Nat × Od)) (e : En) (t : List AV) : k_parts xs e t = xs.map fun p => (p.1, p.2.1, p.2.2.ev e t) := by
  unfold k_parts
  induction xs with
  | nil => rfl
  | cons p xs ih =>
    rw [List.map_cons, ← ih, ← k_od_eq]
theorem k_take_eq {α : Type} (n : Nat) (l : List α) : k_take n l = l.take n := by
  unfold k_take
  induction l generalizing n with
  | nil => simp
  | cons x l ih => cases n with
    | zero => rfl
    | succ n => rw [List.take_succ_cons, ← ih n]
theorem k_drop_eq {α : Type} (n : Nat) (l : List α) : k_drop n l = l.drop n := by
  unfold k_drop
  induction l generalizing n with
  | nil => simp
  | cons x l ih => cases n with
    | zero => rfl
    | succ n => rw [List.drop_succ_cons, ← ih n]
theorem k_app_eq {α : Type} (l r : List α) : k_app l r = l ++ r := by
  unfold k_app
  induction l with
  | nil => rfl
  | cons x l ih => rw [List.cons_append, ← ih]
theorem k_takeN_eq (n off : Nat) (l : List AV) : k_takeN n off l = takeN n off l := by
  unfold k_takeN takeN
  rw [k_if_eq, k_take_eq, k_drop_eq, k_len_eq]; rfl
theorem k_takeS_eq {β : Type} (d : β) (n off : Nat) (l vs : List AV) (f : List AV → β) : k_takeS d n off l vs f = match takeN n off l with | some r => f (r ++ vs) | none => d := by
  unfold k_takeS
  induction l generalizing n off f with
  | nil =>
    show (Bool.rec d (f vs) (Nat.beq (off + n) 0) : β) = _
    unfold takeN
    cases h : Nat.beq (off + n) 0 with
    | true =>
      have := Nat.eq_of_beq_eq_true h
      obtain rfl : off = 0 := by omega
      obtain rfl : n = 0 := by omega
      rfl
    | false =>
      have : off + n ≠ 0 := fun e => by rw [e] at h; cases h
      have h2 : Nat.ble (off + n) 0 = false := by cases hb : Nat.ble (off + n) 0 with | false => rfl | true => have := Nat.le_of_ble_eq_true hb; omega
      simp only [List.length_nil, h2]
      rfl
  | cons x l ih =>
    cases off with
    | zero => cases n with
      | zero => rfl
      | succ n =>
        show List.rec (motive := fun _ => Nat → Nat → List AV → β → (List AV → β) → β) _ _ l 0 n vs d _ = _
        rw [ih]
        have e1 : takeN (n + 1) 0 (x :: l) = (takeN n 0 l).map (x :: ·) := by
          unfold takeN
          have e2 : Nat.ble (0 + (n + 1)) (x :: l).length = Nat.ble (0 + n) l.length := by
            rw [Bool.eq_iff_iff, Nat.ble_eq, Nat.ble_eq, List.length_cons]; omega
          rw [e2]
          cases Nat.ble (0 + n) l.length <;> rfl
        rw [e1]
        cases takeN n 0 l <;> rfl
    | succ m =>
      show List.rec (motive := fun _ => Nat → Nat → List AV → β → (List AV → β) → β) _ _ l m n vs d f = _
      rw [ih]
      have e1 : takeN n (m + 1) (x :: l) = takeN n m l := by
        unfold takeN
        have e2 : Nat.ble (m + 1 + n) (x :: l).length = Nat.ble (m + n) l.length := by
          rw [Bool.eq_iff_iff, Nat.ble_eq, Nat.ble_eq, List.length_cons]; omega
        rw [e2]
        rfl
      rw [e1]
theorem k_u8_eq {β : Type} (v : AV) (d : β) (f : Int → β) : k_u8 v d f = match v with | .int .u8 n => f n | _ => d := by
  cases v <;> first | rfl | skip
  rename_i k n
  cases k <;> rfl
theorem k_bytes_eq {β : Type} (l : List AV) (d : β) (f : List UInt8 → β) : k_bytes l d f = match bytesOf l with | some s => f s | none => d := by
  unfold k_bytes
  induction l generalizing f with
  | nil => rfl
  | cons v l ih =>
    show k_u8 v d _ = _
    rw [k_u8_eq]
    cases v <;> first | rfl | skip
    rename_i k n
    cases k <;> first | rfl | skip
    simp only [bytesOf]
    cases n with
    | ofNat m =>
      refine (ih _).trans ?_
      cases bytesOf l <;> rfl
    | negSucc m =>
      refine (ih _).trans ?_
      cases bytesOf l <;> rfl
theorem k_mapB_eq {β : Type} (l : List UInt8) (f : List AV → β) : k_mapB l f = f (l.map fun b => .int .u8 b.toNat) := by
  unfold k_mapB
  induction l generalizing f with
  | nil => rfl
  | cons b l ih =>
    show k_lit (k_bn b) _ = _
    rw [k_lit_eq]
    exact ih _
theorem k_rep_eq {β : Type} (l : List AV) (n : Nat) (f : List AV → β) : k_rep l n f = f (rep l n) := by
  unfold k_rep
  induction n generalizing f with
  | zero => rfl
  | succ n ih =>
    refine (ih _).trans ?_
    rw [k_appS_eq]; rfl
theorem k_spl_eq (off : Nat) (vs l : List AV) : k_spl off vs l = spl off vs l := by
  unfold k_spl
  induction l generalizing off with
  | nil => unfold spl; simp
  | cons x l ih => cases off with
    | zero =>
      show k_app vs (k_drop (k_len vs 0) (x :: l)) = _
      rw [k_app_eq, k_drop_eq, k_len_eq]; unfold spl; simp
    | succ m =>
      show x :: _ = _
      rw [ih m]
      unfold spl
      rw [show m + 1 + vs.length = (m + vs.length) + 1 by omega]
      rfl
theorem k_cells_eq (v : AV) : k_cells v = cellsOf v := by cases v <;> rfl
theorem k_one_eq (v : AV) : k_one v = v.one := by cases v <;> rfl
theorem k_all_eq (l : List AV) : k_all l = allOne l := by
  unfold k_all
  induction l with
  | nil => rfl
  | cons x l ih =>
    show (Bool.rec false _ (k_one x) : Bool) = _
    rw [k_one_eq, allOne, ← ih]
    cases x.one <;> rfl

section
variable {X : Type}
theorem k_row_eq (h : Hp X) (g : Nat) : k_row h g = rowOf h g := by
  unfold k_row rowOf
  cases h.get g with
  | none => rfl
  | some b => cases b <;> rfl
theorem k_capB_eq (h : Hp X) (z g off len : Nat) (cap : Option Nat) (n : Nat) : k_capB h z g off len cap n = capB h z g off len cap n := by
  unfold k_capB capB
  rw [k_row_eq]
  cases Nat.ble n len with
  | true => rfl
  | false =>
    cases cap with
    | some k => rfl
    | none =>
      simp only [Bool.false_or]
      cases rowOf h g with
      | none => rfl
      | some l => simp only [k_len_eq]; rfl
theorem k_slS_eq (s : List UInt8) (lo hi : Option AV) : k_slS s lo hi = slS s lo hi := by
  unfold k_slS
  rw [k_lit_eq, k_len_eq, k_some_eq]
  unfold slS k_hi
  have e : ∀ hh, (k_some (k_lo lo hh) fun l => some (AV.str (k_drop l (k_take hh s)))) = match (match lo with | none => some 0 | some v => match nOf v with | some n => bif Nat.ble n hh then some n else none | none => none : Option Nat) with
    | none => none
    | some l => some (.str ((s.take hh).drop l)) := fun hh => by
    rw [k_some_eq]
    unfold k_lo
    cases lo with
    | none => simp only [Option.bind_some, k_drop_eq, k_take_eq]
    | some v =>
      simp only [k_some_eq, k_nOf_eq, k_if_eq, k_drop_eq, k_take_eq]
      cases nOf v with
      | none => rfl
      | some n => simp only [Option.bind_some]; cases Nat.ble n hh <;> rfl
  cases hi with
  | none => exact e _
  | some v =>
    simp only [k_some_eq, k_nOf_eq, k_if_eq]
    cases nOf v with
    | none => rfl
    | some n =>
      simp only [Option.bind_some, Nat.add_zero]
      cases Nat.ble n s.length with
      | false => rfl
      | true => have q := e n; rw [k_some_eq] at q; exact q
theorem k_sl_eq (h : Hp X) (z : Nat) (x : AV) (lo hi : Option AV) : k_sl h z x lo hi = slB z x lo hi none (capB h z) (X := X) := by
  have hc : k_capB h z = capB h z := by funext g off len cap n; exact k_capB_eq ..
  unfold k_sl
  rw [k_slice_eq, hc]
  cases x <;> first | rfl | skip
  rename_i z' g off len cap
  simp only [slB, k_if_eq]
  cases Nat.beq z' z with
  | false => rfl
  | true =>
    simp only [cond_true, Bool.not_true, cond_false]
    have e : ∀ hh, (k_some (k_lo lo hh) fun l => k_lit (Nat.add off (Nat.mul l z)) fun o => k_lit (Nat.sub hh l) fun n => some (AV.slice z g o n (Option.rec (motive := fun _ => Nat → Option Nat) (fun _ => none) (fun k l => k_lit (Nat.sub k l) some) cap l))) =
      match (match lo with | none => some 0 | some v => match nOf v with | some n => bif Nat.ble n hh then some n else none | none => none : Option Nat) with
        | none => none
        | some l => some (.slice z g (off + l * z) (hh - l) (match cap with | none => none | some k => some (k - l))) := fun hh => by
      have fin : ∀ l, (k_lit (Nat.add off (Nat.mul l z)) fun o => k_lit (Nat.sub hh l) fun n => some (AV.slice z g o n (Option.rec (motive := fun _ => Nat → Option Nat) (fun _ => none) (fun k l => k_lit (Nat.sub k l) some) cap l))) = some (.slice z g (off + l * z) (hh - l) (match cap with | none => none | some k => some (k - l))) := fun l => by
        rw [k_lit_eq, k_lit_eq]
        cases cap with
        | none => rfl
        | some k => simp only [k_lit_eq]; rfl
      rw [k_some_eq]
      unfold k_lo
      cases lo with
      | none => exact fin 0
      | some v =>
        simp only [k_some_eq, k_nOf_eq, k_if_eq]
        cases nOf v with
        | none => rfl
        | some n =>
          simp only [Option.bind_some]
          cases Nat.ble n hh with
          | false => rfl
          | true => exact fin n
    rw [k_some_eq]
    unfold k_hi
    cases hi with
    | none => exact e _
    | some v =>
      simp only [k_some_eq, k_nOf_eq, k_if_eq]
      cases nOf v with
      | none => rfl
      | some n =>
        simp only [Option.bind_some]
        cases capB h z g off len cap n with
        | false => rfl
        | true => have q := e n; rw [k_some_eq] at q; exact q
theorem onInt_congr {α : Type} {v : AV} {f g : IntKind → Int → Option α} (h : ∀ k n, f k n = g k n) : v.onInt f = v.onInt g := by cases v <;> first | rfl | exact h _ _
theorem onBool_congr {α : Type} {v : AV} {f g : Bool → Option α} (h : ∀ b, f b = g b) : v.onBool f = v.onBool g := by cases v <;> first | rfl | exact h _
theorem onStr_congr {α : Type} {v : AV} {f g : List UInt8 → Option α} (h : ∀ b, f b = g b) : v.onStr f = v.onStr g := by cases v <;> first | rfl | exact h _
theorem onPtr_congr {α : Type} {v : AV} {f g : Nat → Nat → Option α} (h : ∀ b c, f b c = g b c) : v.onPtr f = v.onPtr g := by cases v <;> first | rfl | exact h _ _
theorem onAgg_congr {α : Type} {v : AV} {f g : List AV → Option α} (h : ∀ b, f b = g b) : v.onAgg f = v.onAgg g := by cases v <;> first | rfl | exact h _
theorem onTup_congr {α : Type} {v : AV} {f g : List AV → Option α} (h : ∀ b, f b = g b) : v.onTup f = v.onTup g := by cases v <;> first | rfl | exact h _
theorem k_mv_eq (o : Mv) (e : En) (t : List AV) (h : Hp X) : k_mv o e t h = o.ev e t h := by
  cases o
  case mv x => show k_fv (k_od x e t) some = _; rw [k_fv_eq, k_od_eq]; rfl
  case pick c x y =>
    show k_bool (k_od c e t) _ = _
    rw [k_bool_eq, k_od_eq]
    refine onBool_congr fun b => ?_
    cases b
    · show k_fv (k_od y e t) some = _; rw [k_fv_eq, k_od_eq]; rfl
    · show k_fv (k_od x e t) some = _; rw [k_fv_eq, k_od_eq]; rfl
  case bin op q x y => show k_bin op q (k_od x e t) (k_od y e t) = _; rw [k_bin_eq, k_od_eq, k_od_eq]; rfl
  case notb x => show k_bool (k_od x e t) _ = _; rw [k_bool_eq, k_od_eq]; exact onBool_congr fun b => by rw [k_bool'_eq, k_not_eq]
  case neg x => show k_int (k_od x e t) _ = _; rw [k_int_eq, k_od_eq]; exact onInt_congr fun k n => by rw [k_outw_eq, k_neg_eq, Int.zero_sub]
  case conv k x => show k_int (k_od x e t) _ = _; rw [k_int_eq, k_od_eq]; exact onInt_congr fun _ n => by rw [k_outw_eq]
  case b2s x =>
    show k_slice0 (k_od x e t) _ _ = _
    rw [k_slice0_eq, k_od_eq]
    simp only [Mv.ev]
    cases x.ev e t <;> first | rfl | skip
    rename_i z g off len cap
    simp only [k_some_eq, k_row_eq]
    cases rowOf h g with
    | none => rfl
    | some l =>
      simp only [Option.bind_some, k_takeS_eq, k_bytes_eq, List.append_nil]
      cases takeN len off l with
      | none => rfl
      | some r => simp only []; cases bytesOf r <;> rfl
  case i2s x => show (Mv.i2s (.const (k_od x e t))).ev [] [] h = _; rw [k_od_eq]; rfl
  case nilc x => show (Mv.nilc (.const (k_od x e t))).ev [] [] h = _; rw [k_od_eq]; rfl
  case fld1 off x =>
    show k_agg (k_od x e t) _ = _; rw [k_agg_eq, k_od_eq]
    exact onAgg_congr fun l => by rw [k_some_eq, k_getN_eq]; cases getN l off; rfl; exact k_fv_eq _ _
  case fldn off n x =>
    show k_agg (k_od x e t) _ = _; rw [k_agg_eq, k_od_eq]
    exact onAgg_congr fun l => by rw [k_some_eq, k_takeN_eq]; cases takeN n off l <;> rfl
  case ext i x =>
    show k_tup (k_od x e t) _ = _; rw [k_tup_eq, k_od_eq]
    exact onTup_congr fun l => by rw [k_some_eq, k_getN_eq]; cases getN l i; rfl; exact k_fv_eq _ _
  case bld zero ps =>
    show k_some (fillA zero (k_parts ps e t)) _ = _
    rw [k_some_eq, k_parts_eq]
    simp only [Mv.ev]
    cases fillA zero (ps.map fun p => (p.1, p.2.1, p.2.2.ev e t)) <;> rfl
  case faddr off x => show k_ptr (k_od x e t) _ = _; rw [k_ptr_eq, k_od_eq]; exact onPtr_congr fun g o => by rw [k_lit_eq]; rfl
  case iaddr z x i =>
    show k_slice (k_od x e t) _ _ = _
    rw [k_slice_eq, k_od_eq]
    simp only [Mv.ev]
    cases x.ev e t <;> first | rfl | skip
    simp only [k_some_eq, k_nOf_eq, k_if_eq, k_lit_eq, k_od_eq]
    cases nOf (i.ev e t) <;> rfl
  case idx x i =>
    show k_str (k_od x e t) _ = _; rw [k_str_eq, k_od_eq]
    refine onStr_congr fun s => ?_
    rw [k_some_eq, k_nOf_eq, k_od_eq]
    cases nOf (i.ev e t) with
    | none => rfl
    | some n =>
      simp only [Option.bind_some, k_some_eq, k_getB_eq, k_lit_eq]
      cases s[n]? <;> rfl
  case sl z x lo hi mx =>
    cases mx with
    | none =>
      show k_sl h z (k_od x e t) (k_oev lo e t) (k_oev hi e t) = _
      rw [k_sl_eq, k_od_eq, k_oev_eq, k_oev_eq]; rfl
    | some m =>
      have hc : k_capB h z = capB h z := by funext g off len cap n; exact k_capB_eq ..
      show slB (X := X) z (k_od x e t) (k_oev lo e t) (k_oev hi e t) (some (k_od m e t)) (k_capB h z) = _
      rw [hc, k_od_eq, k_od_eq, k_oev_eq, k_oev_eq]; rfl
  case sls x lo hi => show k_str (k_od x e t) _ = _; rw [k_str_eq, k_od_eq]; exact onStr_congr fun s => by rw [k_slS_eq, k_oev_eq, k_oev_eq]
  case ld1 x =>
    show k_ptr (k_od x e t) _ = _; rw [k_ptr_eq, k_od_eq]
    exact onPtr_congr fun g o => by rw [k_some_eq, k_row_eq]; cases rowOf h g; rfl; exact k_getN_eq _ _
  case ldn n x =>
    show k_ptr (k_od x e t) _ = _; rw [k_ptr_eq, k_od_eq]
    refine onPtr_congr fun g o => ?_
    rw [k_some_eq, k_row_eq]
    cases rowOf h g with
    | none => rfl
    | some l =>
      simp only [Option.bind_some, k_some_eq, k_takeN_eq]
      cases takeN n o l <;> rfl
  case lenv x =>
    show k_slice0 (k_od x e t) _ _ = _
    rw [k_slice0_eq, k_od_eq]
    simp only [Mv.ev]
    cases x.ev e t <;> rfl
  case lens x => show k_str (k_od x e t) _ = _; rw [k_str_eq, k_od_eq]; exact onStr_congr fun s => by rw [k_lit_eq, k_len_eq]; rfl
  case capv x => show (Mv.capv (.const (k_od x e t))).ev [] [] h = _; rw [k_od_eq]; rfl
  case mkif ty x => show k_fv (k_od x e t) _ = _; rw [k_fv_eq, k_od_eq]; rfl
  case mkfn f cs => show k_ods cs e t _ = _; rw [k_ods_eq]; rfl
  case maxv x y => show (Mv.maxv (.const (k_od x e t)) (.const (k_od y e t))).ev [] [] h = _; rw [k_od_eq, k_od_eq]; rfl
  case minv x y => show (Mv.minv (.const (k_od x e t)) (.const (k_od y e t))).ev [] [] h = _; rw [k_od_eq, k_od_eq]; rfl
end
end Am
end Go.Proofs.Ytmfobcejnkakpaa
