/- The plain machine: more of its operations that leave the heap alone. -/
import Derived.Test.YtmfobcejnkakpaaAm4
namespace Go.Proofs.Ytmfobcejnkakpaa
set_option linter.unusedVariables false
set_option linter.unusedSimpArgs false
namespace Am
open Go.RowKit
set_option maxRecDepth 10000
variable {P : Program}
section
variable {keep : List Nat} {o : Oper}
theorem ok_nilc {x : Operand} {x' : Od} (ho : o.op = .nilCheck x) (hx : odOf keep x = some x') : MvOK P keep o (.nilc x') := by
  intro O w0 w m φ h nt e t ac hs hf v hv
  have h1 := hf.od hx
  simp only [Mv.ev] at hv
  generalize x'.ev e t = xa at *
  cases xa <;> simp only [] at hv <;> first | (cases hv; done) | skip
  · cases hv
    refine ⟨_, h1, ?_⟩
    obtain ⟨p, _, h1⟩ := h1
    simp [execOp, ho, h1]
  · cases hv
    refine ⟨_, h1, ?_⟩
    obtain ⟨p, h1, _⟩ := h1
    simp [execOp, ho, h1]
theorem VR.agg_inv {m : Mu} {l : List AV} {v : Value} (h : VR m (.agg l) v) : ∃ vs, v = .agg vs.toArray ∧ VRs m l vs := by simpa [VR] using h
theorem VR.tup_inv {m : Mu} {l : List AV} {v : Value} (h : VR m (.tup l) v) : ∃ vs, v = .tuple vs.toArray ∧ VRs m l vs := by simpa [VR] using h
theorem ok_fld1 {ty : TypeId} {x : Operand} {x' : Od} {f : Nat} {fs : Array Field} {fd : Field} {u : TypeDesc} (ho : o.op = .field ty x f) (hu : P.underlying ty = some (.struct fs)) (hf' : fs[f]? = some fd)
    (hty : P.underlying fd.type = some u) (hna : (∀ x, u ≠ .struct x) ∧ ∀ n e, u ≠ .array n e) (hx : odOf keep x = some x') : MvOK P keep o (.fld1 fd.offset x') := by
  intro O w0 w m φ h nt e t ac hs hf v hv
  obtain ⟨l, hb, hv⟩ := AV.onAgg_some hv
  have h1 := hf.od hx
  rw [hb] at h1
  obtain ⟨vs, h1, h2⟩ := VR.agg_inv h1
  rw [getN_eq] at hv
  obtain ⟨v', h3, h4⟩ := h2.get hv
  refine ⟨v', h4, ?_⟩
  have hagg : (isAgg fd.type).run P w = .ok false w := by
    unfold isAgg
    simp only [Sem.run_bind, run_underlying hty, Result.andThen_ok]
    cases u <;> first | rfl | exact absurd rfl (hna.1 _) | exact absurd rfl (hna.2 _ _)
  simp [execOp, ho, h1, Instr.field, run_underlying hu, hf', asAgg, part, hagg, h3]
theorem ok_fldn {ty : TypeId} {x : Operand} {x' : Od} {f : Nat} {fs : Array Field} {fd : Field} {i : TypeInfo} (ho : o.op = .field ty x f) (hu : P.underlying ty = some (.struct fs)) (hf' : fs[f]? = some fd)
    (hty : (∃ x, P.underlying fd.type = some (.struct x)) ∨ ∃ n e, P.underlying fd.type = some (.array n e)) (hi : P.info? fd.type = some i) (hx : odOf keep x = some x') : MvOK P keep o (.fldn fd.offset i.size x') := by
  intro O w0 w m φ h nt e t ac hs hf v hv
  obtain ⟨l, hb, hv⟩ := AV.onAgg_some hv
  have h1 := hf.od hx
  rw [hb] at h1
  obtain ⟨vs, h1, h2⟩ := VR.agg_inv h1
  cases ht : takeN i.size fd.offset l with
  | none => rw [ht] at hv; cases hv
  | some r =>
    rw [ht] at hv
    cases hv
    obtain ⟨hl, rfl⟩ := takeN_some ht
    refine ⟨.agg ((vs.drop fd.offset).take i.size).toArray, ?_, ?_⟩
    · simp only [VR]
      exact ⟨_, rfl, (h2.drop _).take _⟩
    · have hagg : (isAgg fd.type).run P w = .ok true w := by
        unfold isAgg
        rcases hty with ⟨_, hty⟩ | ⟨_, _, hty⟩ <;> simp [run_underlying hty]
      simp [execOp, ho, h1, Instr.field, run_underlying hu, hf', asAgg, part, hagg, sizeOf, typeInfo, hi, List.extract_eq_take_drop]
theorem ok_ext {x : Operand} {x' : Od} {i : Nat} (ho : o.op = .extract x i) (hx : odOf keep x = some x') : MvOK P keep o (.ext i x') := by
  intro O w0 w m φ h nt e t ac hs hf v hv
  obtain ⟨l, hb, hv⟩ := AV.onTup_some hv
  have h1 := hf.od hx
  rw [hb] at h1
  obtain ⟨vs, h1, h2⟩ := VR.tup_inv h1
  rw [getN_eq] at hv
  obtain ⟨v', h3, h4⟩ := h2.get hv
  exact ⟨v', h4, by simp [execOp, ho, h1, Instr.extract, h3]⟩
theorem run_fieldPlace {w : World} {b off : Nat} {fd : Field} {i : TypeInfo} (hi : P.info? fd.type = some i) (hz : i.size ≠ 0) : (fieldPlace ⟨b, off, none⟩ fd).run P w = .ok ⟨b, off + fd.offset, none⟩ w := by
  unfold fieldPlace
  simp [sizeOf, typeInfo, hi, hz, add_lit']
theorem ok_faddr {ty : TypeId} {x : Operand} {x' : Od} {f : Nat} {fs : Array Field} {fd : Field} {i : TypeInfo} (ho : o.op = .fieldAddr ty x f) (hu : P.underlying ty = some (.struct fs)) (hf' : fs[f]? = some fd)
    (hi : P.info? fd.type = some i) (hz : i.size ≠ 0) (hx : odOf keep x = some x') : MvOK P keep o (.faddr fd.offset x') := by
  intro O w0 w m φ h nt e t ac hs hf v hv
  obtain ⟨g, off, hb, hv⟩ := AV.onPtr_some hv
  have h1 := hf.od hx
  rw [hb] at h1
  simp only [VR] at h1
  obtain ⟨p, hp, h1⟩ := h1
  cases hv
  refine ⟨.pointer (some ⟨p.b, p.s + (off + fd.offset), none⟩), ⟨p, hp, rfl⟩, ?_⟩
  simp [execOp, ho, h1, Instr.fieldAt, run_underlying hu, hf', Instr.sureAddr, run_fieldPlace hi hz, Nat.add_assoc]
theorem ok_iaddr {ty el : TypeId} {x ix : Operand} {x' i' : Od} {i : TypeInfo} (ho : o.op = .indexAddr ty x ix) (hu : P.underlying ty = some (.slice el)) (hi : P.info? el = some i) (hx : odOf keep x = some x') (hix : odOf keep ix = some i') : MvOK P keep o (.iaddr i.size x' i') := by
  intro O w0 w m φ h nt e t ac hs hf v hv
  have h1 := hf.od hx
  have h2 := hf.od hix
  simp only [Mv.ev] at hv
  have fin : ∀ y z r, ac.eval x = y → ac.eval ix = z → (Instr.indexAt ty y z).run P w = .ok r w → (execOp ac.eval o).run P w = .ok (.value r) w := fun y z r h1 h2 h3 => by simp [execOp, ho, h1, h2, h3]
  generalize x'.ev e t = xa at *
  generalize i'.ev e t = ia at *
  cases xa <;> simp only [] at hv <;> first | (cases hv; done) | skip
  rename_i z0 g off len cap
  cases hn : nOf ia with
  | none => rw [hn] at hv; cases hv
  | some n =>
    rw [hn] at hv
    simp only at hv
    obtain ⟨k, rfl⟩ := nOf_some hn
    cases hlt : Nat.blt n len with
    | false => rw [hlt] at hv; cases hv
    | true =>
      rw [hlt] at hv
      cases hv
      have hlt : n < len := by simpa [Nat.blt_eq] using hlt
      simp only [VR] at h1 h2
      obtain ⟨p, ad, c, hp, hval, hlc, _, had, hz, _⟩ := h1
      refine ⟨.pointer (some ⟨p.b, p.s + (off + n * i.size), none⟩), ⟨p, hp, rfl⟩, fin _ _ _ hval h2 ?_⟩
      rw [had (by omega)]
      have hb : (0 : Int) ≤ (n : Int) ∧ (n : Int) < (len : Int) := by omega
      simp [Instr.indexAt, asIntOf, run_underlying hu, sizeOf, typeInfo, hi, hb, add_lit', Nat.add_assoc]
      intro hh
      omega
theorem ok_idx {ty : TypeId} {x ix : Operand} {x' i' : Od} (ho : o.op = .index ty x ix) (hu : P.underlying ty = some .string) (hx : odOf keep x = some x') (hix : odOf keep ix = some i') : MvOK P keep o (.idx x' i') := by
  intro O w0 w m φ h nt e t ac hs hf v hv
  have h1 := hf.od hx
  have h2 := hf.od hix
  obtain ⟨s, hb, hv⟩ := AV.onStr_some hv
  rw [hb] at h1
  simp only [VR] at h1
  cases hn : nOf (i'.ev e t) with
  | none => rw [hn] at hv; cases hv
  | some n =>
    rw [hn] at hv
    simp only at hv
    obtain ⟨k, hk⟩ := nOf_some hn
    rw [hk] at h2
    simp only [VR] at h2
    cases hsn : s[n]? with
    | none => rw [hsn] at hv; cases hv
    | some b =>
      rw [hsn] at hv
      cases hv
      refine ⟨_, rfl, ?_⟩
      have hg : (⟨s.toArray⟩ : ByteArray)[n]? = some b := by
        obtain ⟨h1, h2⟩ := List.getElem?_eq_some_iff.1 hsn
        have hsz : n < (⟨s.toArray⟩ : ByteArray).size := by simpa [ByteArray.size] using h1
        rw [getElem?_pos (⟨s.toArray⟩ : ByteArray) n hsz]
        congr 1
      have hr : (Instr.index ty (.string ⟨s.toArray⟩) (.int k n)).run P w = .ok (.int .u8 b.toNat) w := by
        have h0 : (0 : Int) ≤ (n : Int) := Int.natCast_nonneg n
        unfold Instr.index
        simp [asIntOf, run_underlying hu, h0, hg]
      simp [execOp, ho, h1, h2, hr]
theorem run_load_cell {w : World} {a : Addr} {v : Value} (h : w.cell? a = some v) : (load a).run P w = .ok v w := by simp [h]
theorem ok_ld1 {ty : TypeId} {x : Operand} {x' : Od} {u : TypeDesc} (ho : o.op = .load ty x) (hu : P.underlying ty = some u) (hna : (∀ x, u ≠ .struct x) ∧ ∀ n e, u ≠ .array n e) (hx : odOf keep x = some x') : MvOK P keep o (.ld1 x') := by
  intro O w0 w m φ h nt e t ac hs hf v hv
  obtain ⟨g, off, hb, hv⟩ := AV.onPtr_some hv
  have h1 := hf.od hx
  rw [hb] at h1
  simp only [VR] at h1
  obtain ⟨p, hp, h1⟩ := h1
  cases hr : rowOf h g with
  | none => rw [hr] at hv; cases hv
  | some l =>
    rw [hr] at hv
    simp only [getN_eq] at hv
    obtain ⟨hrow, _⟩ := hs.row hp (rowOf_some hr)
    obtain ⟨v', h3, h4, _⟩ := hrow _ _ hv
    refine ⟨v', h4, ?_⟩
    have hagg : (isAgg ty).run P w = .ok false w := by
      unfold isAgg
      simp only [Sem.run_bind, run_underlying hu, Result.andThen_ok]
      cases u <;> first | rfl | exact absurd rfl (hna.1 _) | exact absurd rfl (hna.2 _ _)
    have h3' : (load ⟨p.b, p.s + off, none⟩).run P w = .ok v' w := run_load_cell h3
    have hl : (Instr.loadAt ty (.pointer (some ⟨p.b, p.s + off, none⟩))).run P w = .ok v' w := by
      unfold Instr.loadAt Instr.sureAddr loadVar
      simp only [Sem.run_bind, Sem.run_pure, Result.andThen_ok, hagg, Bool.false_eq_true, if_false]
      exact h3'
    simp [execOp, ho, h1, hl]
theorem ok_ldn {ty : TypeId} {x : Operand} {x' : Od} {i : TypeInfo} (ho : o.op = .load ty x) (hty : (∃ x, P.underlying ty = some (.struct x)) ∨ ∃ n e, P.underlying ty = some (.array n e)) (hi : P.info? ty = some i) (hx : odOf keep x = some x') : MvOK P keep o (.ldn i.size x') := by
  intro O w0 w m φ h nt e t ac hs hf v hv
  obtain ⟨g, off, hb, hv⟩ := AV.onPtr_some hv
  have h1 := hf.od hx
  rw [hb] at h1
  simp only [VR] at h1
  obtain ⟨p, hp, h1⟩ := h1
  cases hr : rowOf h g with
  | none => rw [hr] at hv; cases hv
  | some l =>
    rw [hr] at hv
    simp only at hv
    cases ht : takeN i.size off l with
    | none => rw [ht] at hv; cases hv
    | some r =>
      rw [ht] at hv
      cases hv
      obtain ⟨hrow, _⟩ := hs.row hp (rowOf_some hr)
      obtain ⟨vs, k1, k2, k3, _⟩ := row_vals hrow ht
      refine ⟨.agg vs.toArray, ⟨vs, rfl, k1⟩, ?_⟩
      have hagg : (isAgg ty).run P w = .ok true w := by
        unfold isAgg
        rcases hty with ⟨_, hty⟩ | ⟨_, _, hty⟩ <;> simp [run_underlying hty]
      have hload := run_loadCells_list (P := P) w ⟨p.b, p.s + off, none⟩ vs (fun j u hj => by rw [add_lit', Nat.add_assoc]; exact k3 j u hj)
      rw [k2] at hload
      have hl : (Instr.loadAt ty (.pointer (some ⟨p.b, p.s + off, none⟩))).run P w = .ok (.agg vs.toArray) w := by
        unfold Instr.loadAt Instr.sureAddr loadVar
        simp only [Sem.run_bind, Sem.run_pure, Result.andThen_ok, hagg, if_true]
        simp [sizeOf, typeInfo, hi, hload]
      simp [execOp, ho, h1, hl]
theorem fin_call {bf : Builtin} {ty : TypeId} {x : Operand} {ρ : Operand → Value} {w w' : World} {y r : Value} {S : Sem Value} (ho : o.op = .call { callee := .builtin bf, args := #[x], argTypes := #[ty] }) (h1 : ρ x = y)
    (hb : ∀ c, builtin bf #[ty] o.type c #[y] = (do pure (.value (← S)))) (h2 : S.run P w = .ok r w') : (execOp ρ o).run P w = .ok (.value r) w' := by
  simp only [execOp, ho, resolve, invoke, List.map_toArray, List.map_cons, List.map_nil, h1, Sem.run_bind, Sem.run_pure, Result.andThen_ok, hb, h2]
theorem ok_len {ty : TypeId} {x : Operand} {x' : Od} {el : TypeId} (ho : o.op = .call { callee := .builtin .len, args := #[x], argTypes := #[ty] }) (hu : P.underlying ty = some (.slice el)) (hx : odOf keep x = some x') : MvOK P keep o (.lenv x') := by
  intro O w0 w m φ h nt e t ac hs hf v hv
  have h1 := hf.od hx
  simp only [Mv.ev] at hv
  generalize x'.ev e t = xa at *
  cases xa <;> simp only [] at hv <;> first | (cases hv; done) | skip
  · cases hv
    simp only [VR] at h1
    obtain ⟨p, ad, c, hp, hval, _⟩ := h1
    exact ⟨_, rfl, fin_call ho hval (fun _ => rfl) (by simp [Builtin.len_, run_underlying hu, goInt])⟩
  · cases hv
    simp only [VR] at h1
    exact ⟨_, rfl, fin_call ho h1 (fun _ => rfl) (by simp [Builtin.len_, run_underlying hu, goInt])⟩
  · cases hv
    simp only [VR] at h1
    obtain ⟨a, c, h1, _⟩ := h1
    exact ⟨_, rfl, fin_call ho h1 (fun _ => rfl) (by simp [Builtin.len_, run_underlying hu, goInt])⟩
theorem ok_lens {ty : TypeId} {x : Operand} {x' : Od} (ho : o.op = .call { callee := .builtin .len, args := #[x], argTypes := #[ty] }) (hu : P.underlying ty = some .string) (hx : odOf keep x = some x') : MvOK P keep o (.lens x') := by
  intro O w0 w m φ h nt e t ac hs hf v hv
  have h1 := hf.od hx
  obtain ⟨s, hb, hv⟩ := AV.onStr_some hv
  rw [hb] at h1
  simp only [VR] at h1
  cases hv
  refine ⟨_, rfl, fin_call ho h1 (fun _ => rfl) ?_⟩
  have : (⟨s.toArray⟩ : ByteArray).size = s.length := by show s.toArray.size = _; simp
  simp [Builtin.len_, run_underlying hu, goInt, this]
theorem ok_cap {ty el : TypeId} {x : Operand} {x' : Od} (ho : o.op = .call { callee := .builtin .cap, args := #[x], argTypes := #[ty] }) (hu : P.underlying ty = some (.slice el)) (hx : odOf keep x = some x') : MvOK P keep o (.capv x') := by
  intro O w0 w m φ h nt e t ac hs hf v hv
  have h1 := hf.od hx
  simp only [Mv.ev] at hv
  generalize x'.ev e t = xa at *
  cases xa <;> first | (cases hv; done) | skip
  · rename_i z0 g off len cap
    cases cap with
    | none => cases hv
    | some k =>
      cases hv
      simp only [VR] at h1
      obtain ⟨p, ad, c, hp, hval, _, _, _, _, hc⟩ := h1
      try simp only at hc
      subst hc
      exact ⟨_, rfl, fin_call ho hval (fun _ => rfl) (by simp [Builtin.cap_, run_underlying hu, goInt])⟩
  · cases hv
    simp only [VR] at h1
    exact ⟨_, rfl, fin_call ho h1 (fun _ => rfl) (by simp [Builtin.cap_, run_underlying hu, goInt])⟩
theorem ok_mkif {ty : TypeId} {x : Operand} {x' : Od} {u : TypeDesc} (ho : o.op = .makeInterface ty x) (hu : P.underlying ty = some u) (hn : ∀ ms, u ≠ .interface ms) (hx : odOf keep x = some x') : MvOK P keep o (.mkif ty x') := by
  intro O w0 w m φ h nt e t ac hs hf v hv
  have h1 := hf.od hx
  cases hv
  refine ⟨.iface ty (ac.eval x), ⟨_, rfl, h1⟩, ?_⟩
  have : (Instr.makeInterface ty (ac.eval x)).run P w = .ok (.iface ty (ac.eval x)) w := by
    unfold Instr.makeInterface
    simp only [Sem.run_bind, run_underlying hu, Result.andThen_ok]
    cases u <;> first | rfl | exact absurd rfl (hn _)
  simp [execOp, ho, this]
theorem ods_ok {m : Mu} {nt : Nat} {e : En} {t : List AV} {a : Act} (f : FR m keep nt e t a) : ∀ {xs : List Operand} {os : List Od}, xs.mapM (odOf keep) = some os → VRs m (os.map fun c => c.ev e t) (xs.map a.eval)
  | [], os, h => by cases h; simp [VRs]
  | x :: xs, os, h => by
    rw [List.mapM_cons] at h
    cases h1 : odOf keep x with
    | none => rw [h1] at h; cases h
    | some b =>
      rw [h1] at h
      cases h2 : xs.mapM (odOf keep) with
      | none => rw [h2] at h; cases h
      | some bs =>
        rw [h2] at h
        cases h
        simp only [List.map_cons, VRs]
        exact ⟨_, _, rfl, f.od h1, ods_ok f h2⟩
theorem ok_mkfn {f : FuncId} {cs : Array Operand} {cs' : List Od} (ho : o.op = .makeFunc (.func f) #[] cs) (hc : cs.toList.mapM (odOf keep) = some cs') : MvOK P keep o (.mkfn f cs') := by
  intro O w0 w m φ h nt e t ac hs hf v hv
  cases hv
  refine ⟨.func (.func f) #[] (cs.map ac.eval), ?_, by simp [execOp, ho, Instr.makeFunc]⟩
  simp only [VR]
  exact ⟨(cs.toList.map ac.eval), by rw [← List.map_toArray], ods_ok hf hc⟩
theorem ok_max {tys : Array TypeId} {x y : Operand} {x' y' : Od} (ho : o.op = .call { callee := .builtin .max, args := #[x, y], argTypes := tys }) (hx : odOf keep x = some x') (hy : odOf keep y = some y') : MvOK P keep o (.maxv x' y') := by
  intro O w0 w m φ h nt e t ac hs hf v hv
  obtain ⟨k, a, hb, hv⟩ := AV.onInt_some hv
  obtain ⟨k2, b, hb2, hv⟩ := AV.onInt_some hv
  have h1 := hf.od hx
  have h2 := hf.od hy
  rw [hb] at h1
  rw [hb2] at h2
  simp only [VR] at h1 h2
  cases hv
  refine ⟨_, rfl, ?_⟩
  by_cases hab : b > a <;> simp [execOp, ho, resolve, invoke, builtin, h1, h2, Builtin.max_, Builtin.max2, hab]
theorem ok_min {tys : Array TypeId} {x y : Operand} {x' y' : Od} (ho : o.op = .call { callee := .builtin .min, args := #[x, y], argTypes := tys }) (hx : odOf keep x = some x') (hy : odOf keep y = some y') : MvOK P keep o (.minv x' y') := by
  intro O w0 w m φ h nt e t ac hs hf v hv
  obtain ⟨k, a, hb, hv⟩ := AV.onInt_some hv
  obtain ⟨k2, b, hb2, hv⟩ := AV.onInt_some hv
  have h1 := hf.od hx
  have h2 := hf.od hy
  rw [hb] at h1
  rw [hb2] at h2
  simp only [VR] at h1 h2
  cases hv
  refine ⟨_, rfl, ?_⟩
  by_cases hab : b < a <;> simp [execOp, ho, resolve, invoke, builtin, h1, h2, Builtin.min_, Builtin.min2, hab]
end
end Am
end Go.Proofs.Ytmfobcejnkakpaa
