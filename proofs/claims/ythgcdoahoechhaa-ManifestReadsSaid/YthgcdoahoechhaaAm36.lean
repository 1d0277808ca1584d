/- The plain machine: what a law is given: opened one by one. -/
import Derived.Test.YthgcdoahoechhaaMH
import Derived.KernelRfl
import Derived.SizedLaws
set_option linter.unusedVariables false
set_option linter.unusedSimpArgs false
namespace Go.Proofs.Ythgcdoahoechhaa
namespace Am
open Go.RowKit Go.ChangeShapes Go.WideShapes Go.ChangeAt Go.Deep
set_option maxRecDepth 10000
def I64 (n : Int) : Prop := -9223372036854775808 ≤ n ∧ n ≤ 9223372036854775807
theorem vrs_nil {m : Mu} : VRs m [] [] := by simp only [VRs]
theorem vrs_cons {m : Mu} {a : AV} {v : Value} {xs : List AV} {l : List Value} (h : VR m a v) (hl : VRs m xs l) : VRs m (a :: xs) (v :: l) := by
  simp only [VRs]
  exact ⟨v, l, rfl, h, hl⟩
theorem vr_int {m : Mu} {k : IntKind} {n : Int} : VR m (.int k n) (.int k n) := by simp only [VR]
theorem vr_bool {m : Mu} {b : Bool} : VR m (.bool b) (.bool b) := by simp only [VR]
theorem vr_str {m : Mu} {s : ByteArray} : VR m (.str s.data.toList) (.string s) := by simp [VR]
theorem vr_agg {m : Mu} {xs : List AV} {l : List Value} (h : VRs m xs l) : VR m (.agg xs) (.agg l.toArray) := by
  simp only [VR]
  exact ⟨l, rfl, h⟩
theorem open_byte {H : Type} {enc : TypeId × Value → H} {P : Program} {w : World} {base : Nat} {sp : Nat → Bool} {held : Bool} {r : Reach} {b0 : Nat} {t : TypeId} {v : Value} {d : DataW H} {ps : List MemPlace} (ht : P.underlying t = some (.int .u8)) (hval : Value.okWide P w r b0 t v) (hd : DataW.Trod enc P w base sp held t v d ps) : ∃ n, v = .int .u8 n := by
  obtain ⟨n, h, _⟩ := open_int ht hval hd
  exact ⟨n, h⟩
section
variable {O : Objs} {W : World} {m : Mu} {h : Hp O.X}
theorem Ini.each {α : Type} {f : α → Value} {Q : Hp O.X → AV → α → Prop} (hQ : ∀ {h h' : Hp O.X} {x : AV} {r : α}, Q h x r → Keep NoB h h' → Q h' x r) : ∀ {rs : List α} {m : Mu} {h : Hp O.X}, Ini O W m h →
    (∀ r ∈ rs, ∀ {m : Mu} {h : Hp O.X}, Ini O W m h → ∃ m' h' x, Ini O W m' h' ∧ Ext m m' ∧ Keep NoB h h' ∧ VR m' x (f r) ∧ x.one = true ∧ Q h' x r) →
    ∃ m' h' xs, Ini O W m' h' ∧ Ext m m' ∧ Keep NoB h h' ∧ VRs m' xs (rs.map f) ∧ (∀ x ∈ xs, x.one = true) ∧ xs.length = rs.length ∧ ∀ (i : Nat) x r, xs[i]? = some x → rs[i]? = some r → Q h' x r
  | [], m, h, hi, _ => ⟨m, h, [], hi, Ext.refl _, Keep.refl _ _, vrs_nil, (fun _ q => by cases q), rfl, fun i x r q => by simp at q⟩
  | r :: rs, m, h, hi, hr => by
    obtain ⟨m1, h1, x, i1, e1, k1, v1, o1, q1⟩ := hr r (List.mem_cons_self ..) hi
    obtain ⟨m2, h2, xs, i2, e2, k2, v2, o2, l2, q2⟩ := Ini.each (f := f) (Q := Q) hQ i1 (fun r' hr' => hr r' (List.mem_cons_of_mem _ hr'))
    refine ⟨m2, h2, x :: xs, i2, e1.trans e2, k1.and k2, vrs_cons (v1.ext e2) v2, fun y hy => ?_, by simp [l2], fun i y s hy hs => ?_⟩
    · rcases List.mem_cons.1 hy with rfl | hy
      · exact o1
      · exact o2 y hy
    · cases i with
      | zero => simp at hy hs; subst hy hs; exact hQ q1 k2
      | succ i => simp at hy hs; exact q2 i y s hy hs
theorem Ini.rows {α : Type} {f : α → Value} {Q : Hp O.X → AV → α → Prop} (hQ : ∀ {h h' : Hp O.X} {x : AV} {r : α}, Q h x r → Keep NoB h h' → Q h' x r) (H : Ini O W m h) {a : Option Addr} {c : Nat} {rs : List α} (hr : Rd W 1 (.slice a rs.length c) rs.length (rs.map f))
    (he : ∀ r ∈ rs, ∀ {m : Mu} {h : Hp O.X}, Ini O W m h → ∃ m' h' x, Ini O W m' h' ∧ Ext m m' ∧ Keep NoB h h' ∧ VR m' x (f r) ∧ x.one = true ∧ Q h' x r) :
    ∃ m' h' x xs, Ini O W m' h' ∧ Ext m m' ∧ Keep NoB h h' ∧ VR m' x (.slice a rs.length c) ∧ RS h' 1 x rs.length xs ∧ ∀ (i : Nat) y r, xs[i]? = some y → rs[i]? = some r → Q h' y r := by
  obtain ⟨m1, h1, xs, i1, e1, k1, v1, o1, l1, q1⟩ := Ini.each (f := f) (Q := Q) hQ H he
  obtain ⟨m2, h2, x, i2, e2, k2, v2, r2, _⟩ := i1.slice Nat.zero_lt_one hr v1 o1
  exact ⟨m2, h2, x, xs, i2, e1.trans e2, k1.and k2, v2, r2, fun i y r hy hs => hQ (q1 i y r hy hs) k2⟩
end
theorem open_list {H : Type} {enc : TypeId × Value → H} {W : World} {r : Reach} {b0 : Nat} {v : Value} {d : DataW H} {ps : List MemPlace} (hval : Value.okWide Try.prog W r b0 67 v) (h : DataW.Trod enc Try.prog W 0 (fun _ => true) true 67 v d ps) :
    ∃ (a : Option Addr) (zs : List Int) (c : Nat) (w n : Int), v = .agg #[.slice a zs.length c, .int .i64 w, .int .i64 n] ∧ Rd W 1 (.slice a zs.length c) zs.length (zs.map (Value.int .i64)) := by
  obtain ⟨fs, hu, ht, hone⟩ : ∃ fs, Try.prog.underlying 67 = some (.struct fs) ∧ fs.map (fun f => f.type) = #[65, 3, 3] ∧ oneCellFields Try.prog fs = true := ⟨_, Try.underlying67, by simp, by kernel_rfl⟩
  have hC : Try.prog.cellsOf 67 = 3 := by kernel_rfl
  have hI : Try.prog.cellsOf 3 = 1 := by kernel_rfl
  have hsz : fs.size = 3 := by have := congrArg Array.size ht; simpa using this
  obtain ⟨cs, rfl, hcs⟩ := okWide_struct hu hval
  rw [hC] at hcs
  have hty : ∀ (i : Nat) (t : TypeId), (#[65, 3, 3] : Array TypeId)[i]? = some t → ∃ f : Field, fs[i]? = some f ∧ f.type = t := by
    intro i t hi
    rw [← ht, Array.getElem?_map] at hi
    exact Option.map_eq_some_iff.1 hi
  obtain ⟨fuel, hf⟩ := h
  obtain ⟨xs, n', _, _, _, hxl, hfd⟩ := DataW.trod_struct hu hf
  obtain ⟨x0, x1, x2, rfl⟩ : ∃ x0 x1 x2, cs = #[x0, x1, x2] := by
    obtain ⟨l⟩ := cs
    match l, hcs with
    | [a, b, c], _ => exact ⟨a, b, c, rfl⟩
  have key : ∀ (i : Nat) (t : TypeId), (#[65, 3, 3] : Array TypeId)[i]? = some t → ∃ y, DataW.trod enc Try.prog W 0 (fun _ => true) true n' t [[x0, x1, x2].getD i undef] = some y := by
    intro i t hi
    obtain ⟨f, g1, g2⟩ := hty i t hi
    have hlt : i < fs.size := (Array.getElem?_eq_some_iff.1 g1).1
    obtain ⟨ho, hc1⟩ := hone_of hone i f g1
    have g := hfd i f g1
    rw [ho, hc1, g2] at g
    simp only [Value.cells] at g
    rw [take1_drop _ i undef (by simp; omega), List.getElem?_eq_getElem (by omega)] at g
    exact ⟨_, g⟩
  obtain ⟨⟨d0, p0⟩, r0⟩ := key 0 _ rfl
  obtain ⟨⟨d1, p1⟩, r1⟩ := key 1 _ rfl
  obtain ⟨⟨d2, p2⟩, r2⟩ := key 2 _ rfl
  obtain ⟨k1, e1, _, w1⟩ := DataW.trod_int Try.underlying3 r1
  obtain ⟨k2, e2, _, w2⟩ := DataW.trod_int Try.underlying3 r2
  simp at e1 e2
  subst e1 e2
  simp only [List.getD_cons_zero] at r0
  obtain ⟨a0, len, cap, rfl⟩ := shape_of Try.underlying65 r0
  obtain ⟨a, zs, c, hv, hr, hz⟩ := open_i64s Try.underlying65 Try.underlying3 hI ⟨_, _, _, rfl⟩ (show DataW.Trod enc Try.prog W 0 (fun _ => true) true 65 (.slice a0 len cap) d0 p0 from ⟨n', r0⟩)
  exact ⟨a, zs, c, k1, k2, by rw [hv], hr⟩
theorem rs_one {X : Type} {h : Hp X} {z n : Nat} {v : AV} {cells : List AV} (a : RS h z v n cells) : v.one = true := by
  cases v <;> first | exact a.elim | rfl
theorem reach_len {H : Type} {enc : TypeId × Value → H} {P : Program} {W : World} {ts : List TypeId} {ds : List (DataW H)} (hsz : (DataW.weightsEach P ts ds).all (· ≤ reachBytes) = true) {j : Nat} {t e : TypeId} {d : DataW H} {ps : List MemPlace} {a : Option Addr} {n c : Nat} (hj : ts[j]? = some t) (hd : ds[j]? = some d) (ht : P.underlying t = some (.slice e)) (hc : P.cellsOf e = 1) (hb : P.bytesOf e = 1)
    (h : DataW.Trod enc P W 0 (fun _ => true) true t (.slice a n c) d ps) : n ≤ 140737488351232 := by
  obtain ⟨fuel, hf⟩ := h
  rcases open_slice1 ht hc hf with ⟨hcs, _⟩ | ⟨a', len, cap, m, k, V, D, Pl, hcs, _, hl, hm, hmm, hx, _⟩
  · simp [Value.cells] at hcs
    omega
  · simp [Value.cells] at hcs
    obtain ⟨rfl, rfl, rfl⟩ := hcs
    simp only [Prod.mk.injEq] at hx
    obtain ⟨rfl, _⟩ := hx
    have := sized_slice hsz hj hd ht
    rw [hb] at this
    simp [reachBytes] at this
    omega
def IntsQ {X : Type} (h : Hp X) (x : AV) (l : List Int) : Prop := RS h 1 x l.length (l.map iv) ∧ (∀ y ∈ l, I64 y) ∧ l.length ≤ maxLen
theorem IntsQ.up {X : Type} {h h' : Hp X} {x : AV} {l : List Int} (a : IntsQ h x l) (k : Keep NoB h h') : IntsQ h' x l := ⟨a.1.up k, a.2⟩
structure IntssAt {X : Type} (h : Hp X) (x : AV) (ls : List (List Int)) : Prop where
  out : ∃ cells, RS h 1 x ls.length cells ∧ ∀ (i : Nat) y l, cells[i]? = some y → ls[i]? = some l → IntsQ h y l
  len : ls.length ≤ maxLen
theorem IntssAt.up {X : Type} {h h' : Hp X} {x : AV} {ls : List (List Int)} (a : IntssAt h x ls) (k : Keep NoB h h') : IntssAt h' x ls := by
  obtain ⟨cells, h1, h2⟩ := a.out
  exact ⟨⟨cells, h1.up k, fun i y l q1 q2 => (h2 i y l q1 q2).up k⟩, a.len⟩
structure OpIntss (W : World) (v : Value) : Prop where
  out : ∀ {m : Mu} {h : Hp OD.X}, Ini OD W m h → ∃ (ls : List (List Int)) (m' : Mu) (h' : Hp OD.X) (x : AV), Ini OD W m' h' ∧ Ext m m' ∧ Keep NoB h h' ∧ VR m' x v ∧ IntssAt h' x ls
abbrev RowI := Option Addr × List Int × Nat
def rowI (r : RowI) : Value := .slice r.1 r.2.1.length r.2.2
def RowInI (w : World) (r : RowI) : Prop := Rd w 1 (rowI r) r.2.1.length (r.2.1.map (Value.int .i64)) ∧ ∀ z ∈ r.2.1, -9223372036854775808 ≤ z ∧ z ≤ 9223372036854775807
theorem open_intss {H : Type} {enc : TypeId × Value → H} {W : World} {r : Reach} {b0 : Nat} {v : Value} {d : DataW H} {ps : List MemPlace} (hval : Value.okWide Try.prog W r b0 85 v) (h : DataW.Trod enc Try.prog W 0 (fun _ => true) true 85 v d ps) : OpIntss W v := by
  have hI : Try.prog.cellsOf 3 = 1 := by kernel_rfl
  have hC : Try.prog.cellsOf 65 = 1 := by kernel_rfl
  obtain ⟨a, vs, c, rfl, hr, hx⟩ := open_cells Try.underlying85 hC (okWide_slice Try.underlying85 hval) h
  obtain ⟨rs, rfl, h2⟩ := list_of (f := rowI) (q := RowInI W) (xs := vs) fun u hu => by
    obtain ⟨fuel, ⟨d, ps⟩, hf⟩ := hx u hu
    obtain ⟨a0, len, cap, rfl⟩ := shape_of Try.underlying65 hf
    obtain ⟨a, l, c, hv, hr, hz⟩ := open_i64s Try.underlying65 Try.underlying3 hI ⟨_, _, _, rfl⟩ (show DataW.Trod enc Try.prog W 0 (fun _ => true) true 65 (.slice a0 len cap) d ps from ⟨fuel, hf⟩)
    exact ⟨(a, l, c), hv, hr, hz⟩
  rw [List.length_map] at hr ⊢
  refine ⟨fun {m h} hi => ?_⟩
  obtain ⟨m', h', x, xs, i1, e1, k1, v1, r1, q1⟩ := hi.rows (f := rowI) (Q := fun h x r => IntsQ h x r.2.1) (fun {h h' x r} q k => q.up k) hr (fun r hrr {m h} hi => by
    obtain ⟨g1, g2⟩ := h2 r hrr
    obtain ⟨m', h', x, i1, e1, k1, v1, r1, _⟩ := hi.ints g1
    exact ⟨m', h', x, i1, e1, k1, v1, rs_one r1, r1, g2, g1.2.1⟩)
  refine ⟨rs.map fun r => r.2.1, m', h', x, i1, e1, k1, v1, ⟨xs, by rw [List.length_map]; exact r1, fun i y l h1 h2 => ?_⟩, by rw [List.length_map]; exact hr.2.1⟩
  rw [List.getElem?_map] at h2
  obtain ⟨r, hr1, rfl⟩ := Option.map_eq_some_iff.1 h2
  exact q1 i y r h1 hr1
end Am
end Go.Proofs.Ythgcdoahoechhaa
