/- The plain machine: that its operations which leave the heap alone give what the model's give. -/
import Derived.Test.YtmfobcejnkakpaaAm3
namespace Go.Proofs.Ytmfobcejnkakpaa
set_option linter.unusedVariables false
set_option linter.unusedSimpArgs false
namespace Am
open Go.RowKit
set_option maxRecDepth 10000
variable {P : Program}

/-- the operation o gives what mv gives -/
def MvOK (P : Program) (keep : List Nat) (o : Oper) (mv : Mv) : Prop :=
  ∀ {O : Objs} {w0 w : World} {m : Mu} {φ : Ph} {h : Hp O.X} {nt : Nat} {e : En} {t : List AV} {a : Act}, SR O w0 w m φ h → FR m keep nt e t a → ∀ {v : AV}, mv.ev e t h = some v →
    ∃ v', VR m v v' ∧ (execOp a.eval o).run P w = .ok (.value v') w

section
variable {keep : List Nat} {o : Oper}
theorem ok_mv {x : Operand} {a : Od} (ho : o.op = .move x ∨ o.op = .assign x) (hx : odOf keep x = some a) : MvOK P keep o (.mv a) := by
  intro O w0 w m φ h nt e t ac hs hf v hv
  cases hv
  exact ⟨_, hf.od hx, by rcases ho with ho | ho <;> simp [execOp, ho]⟩
theorem ok_pick {c x y : Operand} {c' x' y' : Od} (ho : o.op = .pick c x y) (hc : odOf keep c = some c') (hx : odOf keep x = some x') (hy : odOf keep y = some y') : MvOK P keep o (.pick c' x' y') := by
  intro O w0 w m φ h nt e t ac hs hf v hv
  obtain ⟨b, hb, hv⟩ := AV.onBool_some hv
  have h1 := hf.od hc
  rw [hb] at h1
  simp only [VR] at h1
  cases b with
  | true => cases hv; exact ⟨_, hf.od hx, by simp [execOp, ho, h1, asBool]⟩
  | false => cases hv; exact ⟨_, hf.od hy, by simp [execOp, ho, h1, asBool]⟩
theorem eqGuard_ok {op : BinOp} {t : TypeId} {x y : Operand} {a b : Value} {w : World} (h1 : a ≠ .nilIface) (h2 : ∀ l, a ≠ .agg l) : (eqGuard op t x y a b).run P w = .ok () w := by
  have : eqGuard op t x y a b = pure () := by
    unfold eqGuard
    cases a <;> first | exact absurd rfl h1 | exact absurd rfl (h2 _) | (cases op <;> rfl)
  rw [this]; rfl
theorem ok_bin {op : BinOp} {ty yt : TypeId} {x y : Operand} {q : Eq} {x' y' : Od} (ho : o.op = .binOp op ty x y yt) (hq : eqOf P ty = q) (hx : odOf keep x = some x') (hy : odOf keep y = some y') : MvOK P keep o (.bin op q x' y') := by
  intro O w0 w m φ h nt e t ac hs hf v hv
  have h1 := hf.od hx
  have h2 := hf.od hy
  obtain ⟨v', h3, h4⟩ := bin_ok (w := w) hq h1 h2 hv
  refine ⟨v', h3, ?_⟩
  have hg : (eqGuard op ty x y (ac.eval x) (ac.eval y)).run P w = .ok () w := by
    have hv' : Am.bin op q (x'.ev e t) (y'.ev e t) = some v := hv
    generalize x'.ev e t = xa at *
    refine eqGuard_ok (fun hn => ?_) (fun l hn => ?_)
    · rw [hn] at h1
      cases xa <;> first | (simp [VR] at h1; done) | (simp [Am.bin] at hv'; done) | (simp [VR] at h1)
    · rw [hn] at h1
      cases xa <;> first | (simp [VR] at h1; done) | (simp [Am.bin] at hv'; done) | (simp [VR] at h1)
  simp [execOp, ho, hg, h4]
theorem ok_not {ty : TypeId} {x : Operand} {x' : Od} (ho : o.op = .unOp .not ty x) (hx : odOf keep x = some x') : MvOK P keep o (.notb x') := by
  intro O w0 w m φ h nt e t ac hs hf v hv
  obtain ⟨b, hb, hv⟩ := AV.onBool_some hv
  have h1 := hf.od hx
  rw [hb] at h1
  simp only [VR] at h1
  cases hv
  exact ⟨_, rfl, by simp [execOp, ho, h1, Op.unary]⟩
theorem ok_neg {ty : TypeId} {x : Operand} {x' : Od} (ho : o.op = .unOp .neg ty x) (hx : odOf keep x = some x') : MvOK P keep o (.neg x') := by
  intro O w0 w m φ h nt e t ac hs hf v hv
  obtain ⟨k, n, hb, hv⟩ := AV.onInt_some hv
  have h1 := hf.od hx
  rw [hb] at h1
  simp only [VR] at h1
  cases hv
  refine ⟨.int k (wr k (0 - n)), rfl, ?_⟩
  simp [execOp, ho, h1, Op.unary, Op.intArith, wr]
theorem ok_conv {s d : TypeId} {x : Operand} {x' : Od} {k : IntKind} {u : TypeDesc} (ho : o.op = .convert s d x) (hs' : P.underlying s = some u) (hd : P.underlying d = some (.int k)) (hx : odOf keep x = some x') : MvOK P keep o (.conv k x') := by
  intro O w0 w m φ h nt e t ac hs hf v hv
  obtain ⟨k0, n, hb, hv⟩ := AV.onInt_some hv
  have h1 := hf.od hx
  rw [hb] at h1
  simp only [VR] at h1
  cases hv
  refine ⟨_, rfl, ?_⟩
  have : (convert s d (.int k0 n)).run P w = .ok (.int k (wr k n)) w := by
    unfold convert
    simp only [Sem.run_bind, run_underlying hs', run_underlying hd, Result.andThen_ok]
    cases u <;> rfl
  simp [execOp, ho, h1, this]
theorem ok_i2s {s d : TypeId} {x : Operand} {x' : Od} {k : IntKind} (ho : o.op = .convert s d x) (hs' : P.underlying s = some (.int k)) (hd : P.underlying d = some .string) (hx : odOf keep x = some x') : MvOK P keep o (.i2s x') := by
  intro O w0 w m φ h nt e t ac hs hf v hv
  obtain ⟨k0, n, hb, hv⟩ := AV.onInt_some hv
  have h1 := hf.od hx
  rw [hb] at h1
  simp only [VR] at h1
  cases hv
  refine ⟨_, rfl, ?_⟩
  have : (convert s d (.int k0 n)).run P w = .ok (.string (Utf8.encode n)) w := by
    unfold convert
    simp only [Sem.run_bind, run_underlying hs', run_underlying hd, Result.andThen_ok]
    rfl
  simp [execOp, ho, h1, this]
theorem ok_s2s {s d : TypeId} {x : Operand} {x' : Od} (ho : o.op = .convert s d x) (hs' : P.underlying s = some .string) (hd : P.underlying d = some .string) (hx : odOf keep x = some x') : MvOK P keep o (.sls x' none none) := by
  intro O w0 w m φ h nt e t ac hs hf v hv
  obtain ⟨l, hb, hv⟩ := AV.onStr_some hv
  have h1 := hf.od hx
  rw [hb] at h1
  simp only [VR] at h1
  have e1 : v = .str l := by
    simp only [oev, slS] at hv
    cases hv
    simp
  subst e1
  refine ⟨_, rfl, ?_⟩
  have : (convert s d (.string ⟨l.toArray⟩)).run P w = .ok (.string ⟨l.toArray⟩) w := by
    unfold convert
    simp only [Sem.run_bind, run_underlying hs', run_underlying hd, Result.andThen_ok]
    rfl
  simp [execOp, ho, h1, this]
theorem bytes_vals {m : Mu} : ∀ {l : List AV} {s : List UInt8}, bytesOf l = some s → ∀ {vs : List Value}, VRs m l vs → ∃ ns : List Int, vs = ns.map (Value.int .u8) ∧ s = ns.map (fun n => UInt8.ofNat n.toNat)
  | [], s, h, vs, hv => by cases h; simp only [VRs] at hv; subst hv; exact ⟨[], rfl, rfl⟩
  | x :: l, s, h, vs, hv => by
    simp only [VRs] at hv
    obtain ⟨v, vs', rfl, h1, h2⟩ := hv
    simp only [bytesOf] at h
    split at h
    · rename_i n
      cases hb : bytesOf l with
      | none => rw [hb] at h; cases h
      | some r =>
        rw [hb] at h
        cases h
        obtain ⟨ns, rfl, rfl⟩ := bytes_vals hb h2
        simp only [VR] at h1
        subst h1
        exact ⟨n :: ns, rfl, rfl⟩
    · cases h
theorem foldl_bytes (ns : List Int) : ∀ s : ByteArray, ns.foldl (fun (r : ByteArray) n => r.push (UInt8.ofNat n.toNat)) s = ⟨s.data ++ (ns.map fun n => UInt8.ofNat n.toNat).toArray⟩ := by
  induction ns with
  | nil => intro s; simp
  | cons x b ih => intro s; rw [List.foldl_cons, ih]; simp [ByteArray.push]
/-- some cells of a row, one by one -/
theorem row_vals {m : Mu} {l : List AV} {f : Nat → Option Value} (hr : RowR m l f) {n off : Nat} {r : List AV} (h : takeN n off l = some r) :
    ∃ vs : List Value, VRs m r vs ∧ vs.length = n ∧ (∀ (j : Nat) v, vs[j]? = some v → f (off + j) = some v) ∧ ∀ a ∈ r, a.one = true := by
  obtain ⟨hl, rfl⟩ := takeN_some h
  have hlen : ((l.drop off).take n).length = n := by rw [List.length_take, List.length_drop]; omega
  have hget : ∀ j, j < n → ∃ v, l[off + j]? = some v ∧ ((l.drop off).take n)[j]? = some v := fun j hj => by
    have : off + j < l.length := by omega
    exact ⟨l[off + j], List.getElem?_eq_getElem this, by rw [List.getElem?_take, if_pos hj, List.getElem?_drop, List.getElem?_eq_getElem this]⟩
  refine ⟨(List.range n).map fun j => (f (off + j)).getD undef, VRs.mk (by simp [hlen]) (fun i a v ha hv => ?_), by simp, fun j v hj => ?_, fun a ha => ?_⟩
  · have hi : i < n := by have := (List.getElem?_eq_some_iff.1 ha).1; omega
    obtain ⟨a', h1, h2⟩ := hget i hi
    rw [h2] at ha; cases ha
    obtain ⟨v', h3, h4, _⟩ := hr _ _ h1
    rw [List.getElem?_map, List.getElem?_range hi] at hv
    simp only [Option.map_some, h3, Option.getD_some, Option.some.injEq] at hv
    subst hv
    exact h4
  · have hi : j < n := by have := (List.getElem?_eq_some_iff.1 hj).1; simpa using this
    obtain ⟨a', h1, _⟩ := hget j hi
    obtain ⟨v', h3, _, _⟩ := hr _ _ h1
    rw [List.getElem?_map, List.getElem?_range hi] at hj
    simp only [Option.map_some, h3, Option.getD_some, Option.some.injEq] at hj
    rw [h3, hj]
  · obtain ⟨i, hi, rfl⟩ := List.mem_iff_getElem.1 ha
    obtain ⟨a', h1, h2⟩ := hget i (by omega)
    rw [List.getElem?_eq_getElem hi] at h2
    cases h2
    obtain ⟨_, _, _, h5⟩ := hr _ _ h1
    exact h5
theorem add_lit' (b off j : Nat) : (⟨b, off, none⟩ : Addr).add j = ⟨b, off + j, none⟩ := Addr.add_lit b off j
theorem ok_b2s {s d el : TypeId} {x : Operand} {x' : Od} (ho : o.op = .convert s d x) (hs' : P.underlying s = some (.slice el)) (he : P.underlying el = some (.int .u8)) (hd : P.underlying d = some .string) (hx : odOf keep x = some x') : MvOK P keep o (.b2s x') := by
  intro O w0 w m φ h nt e t ac hs hf v hv
  have h1 := hf.od hx
  simp only [Mv.ev] at hv
  have fin : ∀ y r, ac.eval x = y → (convert s d y).run P w = .ok r w → (execOp ac.eval o).run P w = .ok (.value r) w := fun y r h1 h2 => by simp [execOp, ho, h1, h2]
  generalize x'.ev e t = xa at *
  cases xa <;> simp only [] at hv <;> first | (cases hv; done) | skip
  · rename_i z0 g off len cap
    cases hr : rowOf h g with
    | none => rw [hr] at hv; cases hv
    | some l =>
      rw [hr] at hv
      simp only at hv
      cases ht : takeN len off l with
      | none => rw [ht] at hv; cases hv
      | some r =>
        rw [ht] at hv
        simp only at hv
        cases hb : bytesOf r with
        | none => rw [hb] at hv; cases hv
        | some bs =>
          rw [hb] at hv
          cases hv
          simp only [VR] at h1
          obtain ⟨p, ad, c, hp, hval, hlc, hcm, had, hz, _⟩ := h1
          obtain ⟨hrow, _⟩ := hs.row hp (rowOf_some hr)
          obtain ⟨vs, k1, k2, k3, _⟩ := row_vals hrow ht
          obtain ⟨ns, rfl, rfl⟩ := bytes_vals hb k1
          refine ⟨_, rfl, fin _ _ hval ?_⟩
          rw [run_convert_bytes_string w s d el (some ad) len c hs' he hd]
          have hload : (loadCells ad len).run P w = .ok (ns.map (Value.int .u8)).toArray w := by
            by_cases hc : c = 0
            · have : len = 0 := by omega
              subst this
              have : ns = [] := List.eq_nil_of_length_eq_zero (by simpa using k2)
              subst this
              rfl
            · have := run_loadCells_list (P := P) w ad (ns.map (Value.int .u8)) (fun j u hj => by rw [had hc, add_lit', Nat.add_assoc]; exact k3 j u hj)
              rw [k2] at this
              exact this
          rw [run_bytesToString w ad len c _ hload, foldl_bytes]
          simp
  · cases hv
    simp only [VR] at h1
    refine ⟨_, rfl, fin _ _ h1 ?_⟩
    rw [run_convert_bytes_string w s d el none 0 0 hs' he hd]
    rfl
  · cases hv
    simp only [VR] at h1
    obtain ⟨a, c, h1, hcm, hn⟩ := h1
    refine ⟨_, rfl, fin _ _ h1 ?_⟩
    cases a with
    | none =>
      have := hn rfl
      subst this
      rw [run_convert_bytes_string w s d el none 0 0 hs' he hd]
      rfl
    | some ad =>
      rw [run_convert_bytes_string w s d el (some ad) 0 c hs' he hd, run_bytesToString w ad 0 c [] rfl]
      rfl
end
end Am
end Go.Proofs.Ytmfobcejnkakpaa
