/- The plain machine: what a law is given: opened one by one. -/
import Derived.Test.YthgcdoahoechhaaMH
import Derived.KernelRfl
import Derived.SizedLaws
set_option linter.unusedVariables false
set_option linter.unusedSimpArgs false
namespace Go.Proofs.Ythgcdoahoechhaa
namespace Am
open Go.RowKit Go.ChangeShapes Go.WideShapes Go.ChangeAt Go.Deep
set_option maxRecDepth 10000
def I64 (n : Int) : Prop := -9223372036854775808 ≤ n ∧ n ≤ 9223372036854775807
theorem vrs_nil {m : Mu} : VRs m [] [] := by simp only [VRs]
theorem vrs_cons {m : Mu} {a : AV} {v : Value} {xs : List AV} {l : List Value} (h : VR m a v) (hl : VRs m xs l) : VRs m (a :: xs) (v :: l) := by
  simp only [VRs]
  exact ⟨v, l, rfl, h, hl⟩
theorem vr_int {m : Mu} {k : IntKind} {n : Int} : VR m (.int k n) (.int k n) := by simp only [VR]
theorem vr_bool {m : Mu} {b : Bool} : VR m (.bool b) (.bool b) := by simp only [VR]
theorem open_byte {H : Type} {enc : TypeId × Value → H} {P : Program} {w : World} {base : Nat} {sp : Nat → Bool} {held : Bool} {r : Reach} {b0 : Nat} {t : TypeId} {v : Value} {d : DataW H} {ps : List MemPlace} (ht : P.underlying t = some (.int .u8)) (hval : Value.okWide P w r b0 t v) (hd : DataW.Trod enc P w base sp held t v d ps) : ∃ n, v = .int .u8 n := by
  obtain ⟨n, h, _⟩ := open_int ht hval hd
  exact ⟨n, h⟩
section
variable {O : Objs} {W : World} {m : Mu} {h : Hp O.X}
theorem Ini.each {α : Type} {f : α → Value} {Q : Hp O.X → AV → α → Prop} (hQ : ∀ {h h' : Hp O.X} {x : AV} {r : α}, Q h x r → Keep NoB h h' → Q h' x r) : ∀ {rs : List α} {m : Mu} {h : Hp O.X}, Ini O W m h →
    (∀ r ∈ rs, ∀ {m : Mu} {h : Hp O.X}, Ini O W m h → ∃ m' h' x, Ini O W m' h' ∧ Ext m m' ∧ Keep NoB h h' ∧ VR m' x (f r) ∧ x.one = true ∧ Q h' x r) →
    ∃ m' h' xs, Ini O W m' h' ∧ Ext m m' ∧ Keep NoB h h' ∧ VRs m' xs (rs.map f) ∧ (∀ x ∈ xs, x.one = true) ∧ xs.length = rs.length ∧ ∀ (i : Nat) x r, xs[i]? = some x → rs[i]? = some r → Q h' x r
  | [], m, h, hi, _ => ⟨m, h, [], hi, Ext.refl _, Keep.refl _ _, vrs_nil, (fun _ q => by cases q), rfl, fun i x r q => by simp at q⟩
  | r :: rs, m, h, hi, hr => by
    obtain ⟨m1, h1, x, i1, e1, k1, v1, o1, q1⟩ := hr r (List.mem_cons_self ..) hi
    obtain ⟨m2, h2, xs, i2, e2, k2, v2, o2, l2, q2⟩ := Ini.each (f := f) (Q := Q) hQ i1 (fun r' hr' => hr r' (List.mem_cons_of_mem _ hr'))
    refine ⟨m2, h2, x :: xs, i2, e1.trans e2, k1.and k2, vrs_cons (v1.ext e2) v2, fun y hy => ?_, by simp [l2], fun i y s hy hs => ?_⟩
    · rcases List.mem_cons.1 hy with rfl | hy
      · exact o1
      · exact o2 y hy
    · cases i with
      | zero => simp at hy hs; subst hy hs; exact hQ q1 k2
      | succ i => simp at hy hs; exact q2 i y s hy hs
theorem Ini.rows {α : Type} {f : α → Value} {Q : Hp O.X → AV → α → Prop} (hQ : ∀ {h h' : Hp O.X} {x : AV} {r : α}, Q h x r → Keep NoB h h' → Q h' x r) (H : Ini O W m h) {a : Option Addr} {c : Nat} {rs : List α} (hr : Rd W 1 (.slice a rs.length c) rs.length (rs.map f))
    (he : ∀ r ∈ rs, ∀ {m : Mu} {h : Hp O.X}, Ini O W m h → ∃ m' h' x, Ini O W m' h' ∧ Ext m m' ∧ Keep NoB h h' ∧ VR m' x (f r) ∧ x.one = true ∧ Q h' x r) :
    ∃ m' h' x xs, Ini O W m' h' ∧ Ext m m' ∧ Keep NoB h h' ∧ VR m' x (.slice a rs.length c) ∧ RS h' 1 x rs.length xs ∧ ∀ (i : Nat) y r, xs[i]? = some y → rs[i]? = some r → Q h' y r := by
  obtain ⟨m1, h1, xs, i1, e1, k1, v1, o1, l1, q1⟩ := Ini.each (f := f) (Q := Q) hQ H he
  obtain ⟨m2, h2, x, i2, e2, k2, v2, r2, _⟩ := i1.slice Nat.zero_lt_one hr v1 o1
  exact ⟨m2, h2, x, xs, i2, e1.trans e2, k1.and k2, v2, r2, fun i y r hy hs => hQ (q1 i y r hy hs) k2⟩
end
theorem rs_one {X : Type} {h : Hp X} {z n : Nat} {v : AV} {cells : List AV} (a : RS h z v n cells) : v.one = true := by
  cases v <;> first | exact a.elim | rfl
def IntsQ {X : Type} (h : Hp X) (x : AV) (l : List Int) : Prop := RS h 1 x l.length (l.map iv) ∧ (∀ y ∈ l, I64 y) ∧ l.length ≤ maxLen
theorem IntsQ.up {X : Type} {h h' : Hp X} {x : AV} {l : List Int} (a : IntsQ h x l) (k : Keep NoB h h') : IntsQ h' x l := ⟨a.1.up k, a.2⟩
structure IntssAt {X : Type} (h : Hp X) (x : AV) (ls : List (List Int)) : Prop where
  out : ∃ cells, RS h 1 x ls.length cells ∧ ∀ (i : Nat) y l, cells[i]? = some y → ls[i]? = some l → IntsQ h y l
  len : ls.length ≤ maxLen
theorem IntssAt.up {X : Type} {h h' : Hp X} {x : AV} {ls : List (List Int)} (a : IntssAt h x ls) (k : Keep NoB h h') : IntssAt h' x ls := by
  obtain ⟨cells, h1, h2⟩ := a.out
  exact ⟨⟨cells, h1.up k, fun i y l q1 q2 => (h2 i y l q1 q2).up k⟩, a.len⟩
end Am
end Go.Proofs.Ythgcdoahoechhaa
