/- The plain machine: structs and slices that are built. -/
import Derived.Test.YtmfobcejnkakpaaAm9
namespace Go.Proofs.Ytmfobcejnkakpaa
set_option linter.unusedVariables false
set_option linter.unusedSimpArgs false
namespace Am
open Go.RowKit
set_option maxRecDepth 10000
variable {P : Program}

theorem fold_set (off : Nat) : ∀ (vs : List Value) (k : Nat) (cells : Array Value), off + k + vs.length ≤ cells.size →
    ((vs.zipIdx k).foldl (fun (cs : Array Value) (p : Value × Nat) => cs.setIfInBounds (off + p.2) p.1) cells).toList = cells.toList.take (off + k) ++ (vs ++ cells.toList.drop (off + k + vs.length))
  | [], k, cells, _ => by simp
  | v :: vs, k, cells, h => by
    simp only [List.length_cons] at h
    rw [List.zipIdx_cons, List.foldl_cons, fold_set off vs (k + 1) _ (by simp; omega)]
    have hlt : off + k < cells.toList.length := by simpa using (by omega : off + k < cells.size)
    rw [Array.toList_setIfInBounds]
    rw [show off + (k + 1) = off + k + 1 by omega]
    rw [List.take_succ_eq_append_getElem (by simpa using hlt), List.take_set_of_le (Nat.le_refl _), List.getElem_set_self]
    rw [List.drop_set_of_lt (by omega)]
    simp only [List.length_cons, List.append_assoc, List.cons_append, List.nil_append]
    rw [show off + k + 1 + vs.length = off + k + (vs.length + 1) by omega]
theorem fill_ok {m : Mu} {place : Nat → Option (Nat × Nat)} : ∀ {conc : List (Nat × Value)} {abs : List (Nat × Nat × AV)} {cs : Array Value} {l r : List AV}, conc.length = abs.length →
    (∀ (i : Nat) a b, conc[i]? = some a → abs[i]? = some b → place a.1 = some (b.1, b.2.1) ∧ VR m b.2.2 a.2) → VRs m l cs.toList → fillA l abs = some r → ∃ cs', Instr.fill place cs conc = some cs' ∧ VRs m r cs'.toList
  | [], [], cs, l, r, _, _, hl, h => by cases h; exact ⟨cs, rfl, hl⟩
  | [], _ :: _, _, _, _, hlen, _, _, _ => by cases hlen
  | _ :: _, [], _, _, _, hlen, _, _, _ => by cases hlen
  | (i, v) :: conc, (off, size, a) :: abs, cs, l, r, hlen, hall, hl, h => by
    obtain ⟨hp, hv⟩ := hall 0 (i, v) (off, size, a) (by simp) (by simp)
    simp only at hp hv
    simp only [fillA] at h
    cases hc : cellsOf a with
    | none => rw [hc] at h; cases h
    | some vs =>
      rw [hc] at h
      simp only at h
      cases hb : (Nat.beq vs.length size && Nat.ble (off + size) l.length) with
      | false => rw [hb] at h; cases h
      | true =>
        rw [hb] at h
        simp only [cond_true] at h
        rw [Bool.and_eq_true] at hb
        have hsz := Nat.eq_of_beq_eq_true hb.1
        have hle := Nat.le_of_ble_eq_true hb.2
        have hvs := cellsOf_ok hc hv
        have hvl : v.cells.size = size := by rw [← hsz, ← hvs.len]; simp
        have hcl : cs.size = l.length := by have := hl.len; simpa using this
        have hfold := fold_set off v.cells.toList 0 cs (by simp; omega)
        have hfold' : (v.cells.zipIdx.foldl (fun (cs : Array Value) (p : Value × Nat) => cs.setIfInBounds (off + p.2) p.1) cs).toList = cs.toList.take off ++ (v.cells.toList ++ cs.toList.drop (off + size)) := by
          rw [← Array.foldl_toList, Array.toList_zipIdx]
          rw [hfold]
          simp [hvl]
        have hl' : VRs m (l.take off ++ vs ++ l.drop (off + size)) (v.cells.zipIdx.foldl (fun (cs : Array Value) (p : Value × Nat) => cs.setIfInBounds (off + p.2) p.1) cs).toList := by
          rw [hfold', List.append_assoc]
          exact (hl.take off).append (hvs.append (hl.drop _))
        obtain ⟨cs', h1, h2⟩ := fill_ok (by simpa using hlen) (fun i a b ha hb => hall (i + 1) a b (by simpa using ha) (by simpa using hb)) hl' h
        refine ⟨cs', ?_, h2⟩
        simp only [Instr.fill, hp]
        rw [if_neg (by simp; omega)]
        exact h1
def partsOf (place : Nat → Option (Nat × Nat)) (keep : List Nat) : List (Nat × Operand) → Option (List (Nat × Nat × Od))
  | [] => some []
  | (i, x) :: r => match place i, odOf keep x, partsOf place keep r with
    | some (off, size), some a, some b => some ((off, size, a) :: b)
    | _, _, _ => none
theorem parts_ok {m : Mu} {keep : List Nat} {nt : Nat} {e : En} {t : List AV} {a : Act} (f : FR m keep nt e t a) {place : Nat → Option (Nat × Nat)} : ∀ {xs : List (Nat × Operand)} {os : List (Nat × Nat × Od)}, partsOf place keep xs = some os →
    (xs.map fun p => (p.1, a.eval p.2)).length = (os.map fun p => (p.1, p.2.1, p.2.2.ev e t)).length ∧
    ∀ (i : Nat) x y, (xs.map fun p => (p.1, a.eval p.2))[i]? = some x → (os.map fun p => (p.1, p.2.1, p.2.2.ev e t))[i]? = some y → place x.1 = some (y.1, y.2.1) ∧ VR m y.2.2 x.2
  | [], os, h => by cases h; simp
  | (i, x) :: xs, os, h => by
    simp only [partsOf] at h
    split at h
    · rename_i off size b bs h1 h2 h3
      cases h
      obtain ⟨k1, k2⟩ := parts_ok f h3
      refine ⟨by simpa using k1, fun j u v hu hv => ?_⟩
      cases j with
      | zero => simp at hu hv; subst hu; subst hv; exact ⟨h1, f.od h2⟩
      | succ j => exact k2 j u v (by simpa using hu) (by simpa using hv)
    · cases h
section
variable {keep : List Nat} {o : Oper}
/-- the places of a struct's fields -/
def placesOf (P : Program) (fs : Array Field) (i : Nat) : Option (Nat × Nat) :=
  match fs[i]? with
  | some f => match P.info? f.type with | some j => some (f.offset, j.size) | none => none
  | none => none
theorem run_mapM {α β : Type} {f : α → Sem β} {g : α → β} {w : World} : ∀ {l : List α}, (∀ x ∈ l, (f x).run P w = .ok (g x) w) → (l.mapM f).run P w = .ok (l.map g) w
  | [], _ => by simp
  | x :: l, h => by
    rw [List.mapM_cons]
    have h1 := h x (by simp)
    have h2 := run_mapM (l := l) (fun y hy => h y (by simp [hy]))
    simp [h1, h2]
theorem ok_bld {ty : TypeId} {parts : Array (Nat × Operand)} {ps : List (Nat × Nat × Od)} {fs : Array Field} {i : TypeInfo} {z : Value} {l0 : List AV} (ho : o.op = .build ty parts) (hu : P.underlying ty = some (.struct fs)) (hi : P.info? ty = some i) (hz : i.zero = some z) (hl : avOfs z.cells.toList = some l0)
    (hall : ∀ f ∈ fs.toList, (P.info? f.type).isSome = true) (hp : partsOf (placesOf P fs) keep parts.toList = some ps) : MvOK P keep o (.bld l0 ps) := by
  intro O w0 w m φ h nt e t ac hs hf v hv
  simp only [Mv.ev] at hv
  cases hfl : fillA l0 (ps.map fun p => (p.1, p.2.1, p.2.2.ev e t)) with
  | none => rw [hfl] at hv; cases hv
  | some r =>
    rw [hfl] at hv
    cases hv
    obtain ⟨k1, k2⟩ := parts_ok hf hp
    obtain ⟨cs', h1, h2⟩ := fill_ok k1 k2 (avOfs_ok m hl).1 hfl
    refine ⟨.agg cs', by simp only [VR]; exact ⟨cs'.toList, by simp, h2⟩, ?_⟩
    have hpl : (fs.mapM fun f => (do pure (f.offset, ← sizeOf f.type) : Sem (Nat × Nat))).run P w = .ok (fs.map fun f => (f.offset, P.cellsOf f.type)) w := by
      rw [Array.mapM_eq_mapM_toList]
      have := run_mapM (P := P) (w := w) (l := fs.toList) (f := fun f => (do pure (f.offset, ← sizeOf f.type) : Sem (Nat × Nat))) (g := fun f => (f.offset, P.cellsOf f.type)) (fun f hf => by
        obtain ⟨j, hj⟩ := Option.isSome_iff_exists.1 (hall f hf)
        simp [sizeOf, typeInfo, hj, Program.cellsOf])
      rw [Sem.run_map, this]
      simp only [Result.andThen_ok, Result.ok.injEq, and_true]
      apply Array.ext'
      simp
    have hpe : (fun i => (fs.map fun f => (f.offset, P.cellsOf f.type))[i]?) = placesOf P fs := by
      funext i
      unfold placesOf
      rw [Array.getElem?_map]
      cases hfi : fs[i]? with
      | none => rfl
      | some f =>
        obtain ⟨j, hj⟩ := Option.isSome_iff_exists.1 (hall f (by
          obtain ⟨hh, rfl⟩ := Array.getElem?_eq_some_iff.1 hfi
          exact Array.getElem_mem_toList hh))
        simp [hj, Program.cellsOf]
    have hpm : (parts.map fun p => (p.1, ac.eval p.2)).toList = parts.toList.map fun p => (p.1, ac.eval p.2) := by simp
    have hrun : (Instr.build ty (parts.map fun p => (p.1, ac.eval p.2))).run P w = .ok (.agg cs') w := by
      unfold Instr.build
      simp only [Sem.run_bind, zeroValue, typeInfo, run_program, Result.andThen_ok, hi, hz, Sem.run_pure, run_underlying hu, hpl]
      rw [hpe, hpm, h1]
      rfl
    have : execOp ac.eval o = (do pure (.value (← Instr.build ty (parts.map fun p => (p.1, ac.eval p.2))))) := by simp only [execOp, ho]
    rw [this]
    simp [hrun]
theorem efok_bslice {ty el : TypeId} {len : Nat} {parts : Array (Nat × Operand)} {ps : List (Nat × Nat × Od)} {i : TypeInfo} {z : Value} {l0 : List AV} (ho : o.op = .buildSlice ty len parts) (hu : P.underlying ty = some (.slice el)) (hi : P.info? el = some i) (hz : i.zero = some z) (hzs : z.cells.size = i.size) (h0 : 0 < i.size) (hbig : len * i.size ≤ 16777216)
    (hl : avOfs z.cells.toList = some l0) (hp : partsOf (fun k => some (k * i.size, i.size)) keep parts.toList = some ps) : EfOK P keep o (.bslice i.size len l0 ps) := by
  intro O w0 w m φ h nt e t ac hs hf v h' hv
  simp only [Ef.ev] at hv
  cases hfl : fillA (rep l0 len) (ps.map fun p => (p.1, p.2.1, p.2.2.ev e t)) with
  | none => rw [hfl] at hv; cases hv
  | some r =>
    rw [hfl] at hv
    simp only at hv
    obtain ⟨hb, hv⟩ := bif_some hv
    cases hv
    rw [Bool.and_eq_true, Bool.and_eq_true] at hb
    obtain ⟨⟨b1, b2⟩, b3⟩ := hb
    have b2 := Nat.eq_of_beq_eq_true b2
    have b3 := Nat.le_of_ble_eq_true b3
    obtain ⟨k1, k2⟩ := parts_ok hf hp
    have hrep := rep_ok (avOfs_ok m hl).1 len (len * z.cells.size) rfl
    obtain ⟨cs', h1, h2⟩ := fill_ok (place := fun k => some (k * i.size, i.size)) k1 k2 hrep hfl
    have hcs : cs'.size = len * i.size := by rw [← b2, ← h2.len]; simp
    refine ⟨_, _, _, .slice (some ⟨w.heap.size, 0, none⟩) len len, grow_set m _ ⟨w.heap.size, 0, len * i.size, i.size⟩, Nat.le_succ _, hs.alloc (ty := el) (fz := (0, 0)) (cs := cs') ?_ (by omega) (allOne_ok b1) fz00 (fun _ => rfl) (by omega) (by omega), ?_, .inl ?_⟩
    · rw [List.take_of_length_le (by rw [Array.length_toList]; omega)]
      exact h2
    · simp only [VR]
      exact ⟨_, _, _, Mu.set_self _ _ _, rfl, Nat.le_refl _, b3, fun _ => by simp, ⟨h0, rfl⟩, rfl⟩
    · have hpm : (parts.map fun p => (p.1, ac.eval p.2)).toList = parts.toList.map fun p => (p.1, ac.eval p.2) := by simp
      have hrun : (Instr.buildSlice ty len (parts.map fun p => (p.1, ac.eval p.2))).run P w = .ok (.slice (some ⟨w.heap.size, 0, none⟩) len len) (w.alloc (.cells cs' el)) := by
        unfold Instr.buildSlice
        simp only [Sem.run_bind, run_underlying hu, Result.andThen_ok, sizeOf, typeInfo, run_program, hi, Sem.run_pure]
        rw [if_neg (by omega)]
        by_cases hz0 : len * i.size = 0
        · have hlen0 : len = 0 := by rcases Nat.mul_eq_zero.1 hz0 with h | h; exact h; omega
          subst hlen0
          have hz1 : ∀ f : Nat → Value, (Array.range 0).map f = #[] := fun f => by apply Array.ext'; simp
          simp only [Nat.zero_mul, if_true, Sem.run_bind, Sem.run_pure, Result.andThen_ok, hz1, hpm]
          simp only [Nat.zero_mul, hz1] at h1
          rw [h1]
          simp [newRow]
        · rw [if_neg hz0]
          simp only [Sem.run_bind, zeroValue, typeInfo, run_program, Result.andThen_ok, hi, hz, Sem.run_pure, hpm]
          rw [hzs] at h1
          rw [hzs, h1]
          simp [newRow]
      have : execOp ac.eval o = (do pure (.value (← Instr.buildSlice ty len (parts.map fun p => (p.1, ac.eval p.2))))) := by simp only [execOp, ho]
      rw [this]
      simp [hrun]
end
end Am
end Go.Proofs.Ytmfobcejnkakpaa
