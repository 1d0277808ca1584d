/- The plain machine: its other operations that write or make memory. -/
import Derived.Test.YtmfobcejnkakpaaAm8
namespace Go.Proofs.Ytmfobcejnkakpaa
set_option linter.unusedVariables false
set_option linter.unusedSimpArgs false
namespace Am
open Go.RowKit
set_option maxRecDepth 10000
variable {P : Program}

theorem rep_len (l : List AV) (n : Nat) : (rep l n).length = n * l.length := by
  induction n with
  | zero => simp [rep]
  | succ n ih => simp [rep, ih, Nat.add_mul]; omega
theorem rep_get (l : List AV) : ∀ (n i : Nat), i < n * l.length → (rep l n)[i]? = l[i % l.length]?
  | 0, i, h => by simp at h
  | n + 1, i, h => by
    simp only [rep]
    rw [List.getElem?_append]
    by_cases h1 : i < l.length
    · rw [if_pos h1, Nat.mod_eq_of_lt h1]
    · rw [if_neg h1, rep_get l n (i - l.length) (by rw [Nat.add_mul] at h; omega), ← Nat.mod_eq_sub_mod (by omega)]
theorem rep_one {l : List AV} (h : ∀ a ∈ l, a.one = true) : ∀ n, ∀ a ∈ rep l n, a.one = true
  | 0, a, ha => by cases ha
  | n + 1, a, ha => by
    rcases List.mem_append.1 ha with ha | ha
    · exact h a ha
    · exact rep_one h n a ha
theorem rep_ok {m : Mu} {l : List AV} {zs : Array Value} (h : VRs m l zs.toList) (n k : Nat) (hk : k = n * zs.size) : VRs m (rep l n) ((Array.range k).map (zs[· % zs.size]!)).toList := by
  have hlen : zs.size = l.length := by have := h.len; simpa using this
  subst hk
  refine VRs.mk (by simp [rep_len, hlen]) (fun i a v ha hv => ?_)
  have hi : i < n * l.length := by rw [← rep_len]; exact (List.getElem?_eq_some_iff.1 ha).1
  rw [rep_get l n i hi] at ha
  obtain ⟨v', h1, h2⟩ := h.get ha
  have hsz : 0 < l.length := by
    by_cases h0 : l.length = 0
    · rw [h0] at hi; omega
    · omega
  have hm : i % zs.size < zs.size := Nat.mod_lt _ (by omega)
  simp only [Array.toList_map, Array.toList_range, List.getElem?_map, List.getElem?_range (show i < n * zs.size by rw [hlen]; exact hi), Option.map_some, Option.some.injEq] at hv
  subst hv
  rw [getElem!_pos zs _ hm]
  rw [← hlen, Array.getElem?_toList, Array.getElem?_eq_getElem hm] at h1
  cases h1
  exact h2

section
variable {keep : List Nat} {o : Oper}
theorem call_bi {bf : Builtin} {tys : Array TypeId} {xs : List Operand} {ρ : Operand → Value} {w w' : World} {r : Value} {S : Sem Value} (ho : o.op = .call { callee := .builtin bf, args := xs.toArray, argTypes := tys })
    (hb : ∀ c, builtin bf tys o.type c (xs.map ρ).toArray = (do pure (.value (← S)))) (h2 : S.run P w = .ok r w') : (execOp ρ o).run P w = .ok (.value r) w' := by
  simp only [execOp, ho, resolve, invoke, List.map_toArray, Sem.run_bind, Sem.run_pure, Result.andThen_ok, hb, h2]
theorem efok_append {ty el : TypeId} {x y : Operand} {x' y' : Od} {i : TypeInfo} {zv : Value} (ho : o.op = .call { callee := .builtin .append, args := #[x, y], argTypes := #[ty, ty] }) (hu : P.underlying ty = some (.slice el)) (hi : P.info? el = some i) (hz : i.zero = some zv) (hzs : zv.cells.size = i.size) (h0 : 0 < i.size)
    (hx : odOf keep x = some x') (hy : odOf keep y = some y') : EfOK P keep o (.append i.size i.bytes x' y') := by
  intro O w0 w m φ h nt e t ac hs hf v h' hv
  simp only [Ef.ev] at hv
  split at hv
  · rename_i mm vs he
    obtain ⟨m', φ', w', v', a1, a2, a3, a4, a5⟩ := app_ok (ty := o.type) hs hu hi hz hzs h0 (hf.od hx) (hf.od hy) he hv
    exact ⟨m', φ', w', v', a1, a2, a3, a4, .inl (call_bi (xs := [x, y]) ho (fun _ => rfl) a5)⟩
  · cases hv
theorem efok_appz {ty tn el : TypeId} {x y : Operand} {x' y' : Od} {i : TypeInfo} {zv : Value} {kn : IntKind} {l : List AV} (ho : o.op = .call { callee := .builtin .append, args := #[x, y], argTypes := #[ty, tn] }) (hu : P.underlying ty = some (.slice el)) (htn : P.underlying tn = some (.int kn)) (hi : P.info? el = some i) (hz : i.zero = some zv) (hzs : zv.cells.size = i.size) (h0 : 0 < i.size)
    (hl : avOfs zv.cells.toList = some l) (hx : odOf keep x = some x') (hy : odOf keep y = some y') : EfOK P keep o (.appz i.size i.bytes l x' y') := by
  intro O w0 w m φ h nt e t ac hs hf v h' hv
  have h1 := hf.od hx
  have h2 := hf.od hy
  simp only [Ef.ev] at hv
  have fin := fun (r : Value) (w' : World) hr => call_bi (o := o) (P := P) (ρ := ac.eval) (w := w) (xs := [x, y]) (r := r) (w' := w') (S := Builtin.append_ #[ty, tn] o.type #[ac.eval x, ac.eval y]) ho (fun _ => rfl) hr
  generalize x'.ev e t = xa at *
  generalize y'.ev e t = ya at *
  cases xa <;> simp only [] at hv <;> first | (cases hv; done) | skip
  simp only [VR] at h1
  cases hn : nOf ya with
  | none => rw [hn] at hv; cases hv
  | some k =>
    rw [hn] at hv
    simp only at hv
    obtain ⟨kk, rfl⟩ := nOf_some hn
    simp only [VR] at h2
    obtain ⟨hb, hv⟩ := bif_some hv
    cases hv
    rw [Bool.and_eq_true, Bool.and_eq_true] at hb
    obtain ⟨⟨b1, b2⟩, b3⟩ := hb
    have b2 := Nat.le_of_ble_eq_true b2
    have b3 := Nat.le_of_ble_eq_true b3
    have hk : 0 < k := by
      rcases Nat.eq_zero_or_pos k with e | e
      · subst e; cases b1
      · exact e
    have hsm : k ≤ 9223372036854775807 := by simp only [maxLen] at b3; omega
    obtain ⟨l1, l2⟩ := avOfs_ok m hl
    have hrun := Lib.run_append_nil_zeros (P := P) w ty tn o.type el i zv kk kn hu htn hi hz k hk h0 (by omega) (by omega)
    have hrep := rep_ok l1 k (k * zv.cells.size) rfl
    have hge := grownCap_ge w k 0 el
    obtain ⟨g1, g2⟩ := newRowOK (e := el) (z := i.size) (n := k) (cap := grownCap w k 0 el) (rest := Builtin.zeroCells zv.cells (grownCap w k 0 el - k)) hs hrep (rep_one l2 k) h0 (by simp [hzs]) (by
      rw [size_zeroCells, hzs]
      simp only [Array.toList_map, List.length_map, Array.toList_range, List.length_range, hzs, ← Nat.add_mul]
      congr 1; omega) (grownCap_le_maxLen w k 0 el b3)
    refine ⟨_, _, _, _, grow_set _ _ _, Nat.le_succ _, g1, g2, .inl (fin _ _ ?_)⟩
    rw [h1, h2, hrun]
    rfl
theorem copy_ok {O : Objs} {w0 w : World} {m : Mu} {φ : Ph} {h : Hp O.X} (hs : SR O w0 w m φ h) {dT sT ty e : TypeId} {i : TypeInfo} (hu : P.underlying dT = some (.slice e)) (hi : P.info? e = some i) {x y v : AV} {x' y' : Value} {mm : Nat} {vs : List AV} {h' : Hp O.X} (hx : VR m x x') (hy : VR m y y')
    (he : elems h i.size y = some (mm, vs))
    (hv : copyA h i.size x mm vs = some (v, h')) :
    ∃ m' φ' w' v', (∀ g, g < h.n → m' g = m g) ∧ h.n ≤ h'.n ∧ SR O w0 w' m' φ' h' ∧ VR m' v v' ∧ (Builtin.copy_ #[dT, sT] ty #[x', y']).run P w = .ok v' w' := by
  obtain ⟨ad, c, news, rfl, hmc, _, hnews, hnl, hvl, hone, hadn, hcell⟩ := elems_ok hs he hy
  unfold copyA at hv
  have src : ∀ n, n ≤ mm → (Builtin.firstCells i.size n (.slice ad mm c)).run P w = .ok (news.take (n * i.size)).toArray w := by
    intro n hn
    cases ad with
    | none =>
      have : mm = 0 := (hadn rfl).1
      subst this
      have : n = 0 := by omega
      subst this
      simp [Builtin.firstCells]
    | some a2 =>
      have := run_loadCells_list (P := P) w a2 (news.take (n * i.size)) (fun j u hj => by
        rw [List.getElem?_take] at hj
        split at hj
        · exact hcell a2 rfl j u hj
        · cases hj)
      have hl : (news.take (n * i.size)).length = n * i.size := by rw [List.length_take, hnl]; exact Nat.min_eq_left (Nat.mul_le_mul_right _ hn)
      rw [hl] at this
      exact this
  have zero : ∀ a len cap, min mm len = 0 → (Builtin.copy_ #[dT, sT] ty #[.slice a len cap, .slice ad mm c]).run P w = .ok (.int .i64 0) w := by
    intro a len cap h0
    have h0' : Nat.min mm len = 0 := h0
    have := src 0 (Nat.zero_le _)
    cases a <;> simp [Builtin.copy_, run_underlying hu, Builtin.lenOf, sizeOf, typeInfo, hi, h0', this, goInt, storeCells]
  cases x <;> simp only [] at hv <;> first | (cases hv; done) | skip
  · rename_i z' g off len cap
    simp only [VR] at hx
    obtain ⟨p, ad3, c3, hp, rfl, hlc, hcm3, had, ⟨hz0, hpz⟩, hcap⟩ := hx
    cases hzz : Nat.beq z' i.size with
    | false => rw [hzz] at hv; cases hv
    | true =>
      rw [hzz] at hv
      simp only [cond_true] at hv
      cases hm0 : Nat.beq (min mm len) 0 with
      | true =>
        rw [hm0] at hv
        cases hv
        exact ⟨m, φ, w, _, fun _ _ => rfl, Nat.le_refl _, hs, rfl, zero _ _ _ (Nat.eq_of_beq_eq_true hm0)⟩
      | false =>
        rw [hm0] at hv
        simp only [cond_false] at hv
        have hn0 : min mm len ≠ 0 := fun e => by rw [e] at hm0; cases hm0
        split at hv
        · rename_i l hg
          obtain ⟨hle, hv⟩ := bif_some hv
          cases hv
          have hle := Nat.le_of_ble_eq_true hle
          generalize hN : min mm len = N at *
          have hNm : N ≤ mm := by omega
          have hNl : N ≤ len := by omega
          have hl2 : (vs.take (N * i.size)).length = N * i.size := by rw [List.length_take, hvl]; exact Nat.min_eq_left (Nat.mul_le_mul_right _ hNm)
          have hl3 : (news.take (N * i.size)).length = N * i.size := by rw [List.length_take, hnl]; exact Nat.min_eq_left (Nat.mul_le_mul_right _ hNm)
          have hone2 : ∀ a ∈ vs.take (N * i.size), a.one = true := fun a ha => hone a (List.mem_of_mem_take ha)
          have hv2 := hnews.take (N * i.size)
          refine ⟨m, _, _, .int .i64 N, fun _ _ => rfl, Nat.le_refl _, hs.write hg hp (by rw [hl2]; exact hle) hv2 hone2, rfl, ?_⟩
          have e3 := had (by omega)
          subst e3
          obtain ⟨k1, k2⟩ := hs.open_rw hg hp hle
          have hst := run_storeCells_cells (P := P) p.b (p.s + off) (news.take (N * i.size)) 0 w (fun j hj => by simpa using k1 j (by omega)) (fun j hj => by simpa using k2 j (by omega)) (hv2.all_one hone2)
          have hN' : Nat.min mm len = N := hN
          simp only [Nat.add_zero] at hst
          simp [Builtin.copy_, run_underlying hu, Builtin.lenOf, sizeOf, typeInfo, hi, hN', src N hNm, hst, goInt]
        · cases hv
  · simp only [VR] at hx
    subst hx
    cases hv
    exact ⟨m, φ, w, _, fun _ _ => rfl, Nat.le_refl _, hs, rfl, zero _ _ _ (by omega)⟩
theorem efok_copy {dT sT el : TypeId} {x y : Operand} {x' y' : Od} {i : TypeInfo} (ho : o.op = .call { callee := .builtin .copy, args := #[x, y], argTypes := #[dT, sT] }) (hu : P.underlying dT = some (.slice el)) (hi : P.info? el = some i)
    (hx : odOf keep x = some x') (hy : odOf keep y = some y') : EfOK P keep o (.copy i.size x' y') := by
  intro O w0 w m φ h nt e t ac hs hf v h' hv
  simp only [Ef.ev] at hv
  split at hv
  · rename_i mm vs he
    obtain ⟨m', φ', w', v', a1, a2, a3, a4, a5⟩ := copy_ok (P := P) (sT := sT) (ty := o.type) hs hu hi (hf.od hx) (hf.od hy) he hv
    exact ⟨m', φ', w', v', a1, a2, a3, a4, .inl (call_bi (xs := [x, y]) ho (fun _ => rfl) a5)⟩
  · cases hv
theorem efok_clear {ty el : TypeId} {x : Operand} {x' : Od} {i : TypeInfo} {zv : Value} {l0 : List AV} (ho : o.op = .call { callee := .builtin .clear, args := #[x], argTypes := #[ty] }) (hu : P.underlying ty = some (.slice el)) (hi : P.info? el = some i) (hz : i.zero = some zv) (hzs : zv.cells.size = i.size)
    (hl : avOfs zv.cells.toList = some l0) (hx : odOf keep x = some x') : EfOK P keep o (.clear i.size l0 x') := by
  intro O w0 w m φ h nt e t ac hs hf v h' hv
  have h1 := hf.od hx
  simp only [Ef.ev] at hv
  have fin := fun (r : Value) (w' : World) hr => call_bi (o := o) (P := P) (ρ := ac.eval) (w := w) (xs := [x]) (r := r) (w' := w') (S := Builtin.clear_ #[ty] o.type #[ac.eval x]) ho (fun _ => rfl) hr
  generalize x'.ev e t = xa at *
  cases xa <;> simp only [] at hv <;> first | (cases hv; done) | skip
  · rename_i z' g off len cap
    simp only [VR] at h1
    obtain ⟨p, ad3, c3, hp, hval, hlc, hcm3, had, ⟨hz0, hpz⟩, hcap⟩ := h1
    cases hzz : Nat.beq z' i.size with
    | false => rw [hzz] at hv; cases hv
    | true =>
      rw [hzz] at hv
      simp only [cond_true] at hv
      by_cases hm0 : len = 0
      · subst hm0
        cases hv
        refine ⟨m, φ, w, .tuple #[], fun _ _ => rfl, Nat.le_refl _, hs, by simp [VR, VRs], .inl (fin _ _ ?_)⟩
        rw [hval]
        simp [Builtin.clear_, run_underlying hu]
      · rw [nbeq hm0] at hv
        simp only [cond_false] at hv
        split at hv
        · rename_i l hg
          obtain ⟨hle, hv⟩ := bif_some hv
          cases hv
          have hle := Nat.le_of_ble_eq_true hle
          obtain ⟨l1, l2⟩ := avOfs_ok m hl
          have hrep := rep_ok l1 len (len * zv.cells.size) rfl
          have hrl : (rep l0 len).length = len * i.size := by rw [rep_len, ← l1.len, Array.length_toList, hzs]
          have e3 := had (by omega)
          subst e3
          obtain ⟨k1, k2⟩ := hs.open_rw hg hp hle
          refine ⟨m, _, _, .tuple #[], fun _ _ => rfl, Nat.le_refl _, hs.write hg hp (by rw [hrl]; exact hle) hrep (rep_one l2 len), by simp [VR, VRs], .inl (fin _ _ ?_)⟩
          have hsz : (Builtin.zeroCells zv.cells len).toList.length = len * i.size := by rw [Array.length_toList, size_zeroCells, hzs]
          have hst := run_storeCells_cells (P := P) p.b (p.s + off) (Builtin.zeroCells zv.cells len).toList 0 w (fun j hj => by simpa using k1 j (by omega)) (fun j hj => by simpa using k2 j (by omega)) (hrep.all_one (rep_one l2 len))
          simp only [Nat.add_zero] at hst
          rw [hval]
          obtain ⟨n', rfl⟩ : ∃ n', len = n' + 1 := ⟨len - 1, by omega⟩
          simp [Builtin.clear_, run_underlying hu, zeroValue, typeInfo, hi, hz, hst]
          simp [Builtin.zeroCells]
        · cases hv
  · simp only [VR] at h1
    cases hv
    refine ⟨m, φ, w, .tuple #[], fun _ _ => rfl, Nat.le_refl _, hs, by simp [VR, VRs], .inl (fin _ _ ?_)⟩
    rw [h1]
    simp [Builtin.clear_, run_underlying hu]
theorem efok_mkslice {ty el : TypeId} {l c : Operand} {l' c' : Od} {i : TypeInfo} {zv : Value} {l0 : List AV} (ho : o.op = .makeSlice ty l c) (hu : P.underlying ty = some (.slice el)) (hi : P.info? el = some i) (hz : i.zero = some zv) (hzs : zv.cells.size = i.size) (h0 : 0 < i.size)
    (hl0 : avOfs zv.cells.toList = some l0) (hl : odOf keep l = some l') (hc : odOf keep c = some c') : EfOK P keep o (.mkslice i.size i.bytes l0 l' c') := by
  intro O w0 w m φ h nt e t ac hs hf v h' hv
  have h1 := hf.od hl
  have h2 := hf.od hc
  simp only [Ef.ev] at hv
  split at hv
  · rename_i n k hn hk
    obtain ⟨q1, e1⟩ := nOf_some hn
    obtain ⟨q2, e2⟩ := nOf_some hk
    rw [e1] at h1
    rw [e2] at h2
    simp only [VR] at h1 h2
    obtain ⟨hb, hv⟩ := bif_some hv
    cases hv
    rw [Bool.and_eq_true, Bool.and_eq_true] at hb
    obtain ⟨⟨b1, b2⟩, b3⟩ := hb
    have b1 := Nat.le_of_ble_eq_true b1
    have b2 := Nat.le_of_ble_eq_true b2
    have b3 := Nat.le_of_ble_eq_true b3
    have hsm : k ≤ 9223372036854775807 := by simp only [maxLen] at b3; omega
    obtain ⟨l1, l2⟩ := avOfs_ok m hl0
    have hrep := rep_ok l1 k (k * zv.cells.size) rfl
    have hrun := run_make (P := P) w ty el i zv hu hi hz q1 q2 n k (by omega) (by omega) (by rw [← Int.natCast_mul]; omega) (by omega)
    simp only [Int.toNat_natCast] at hrun
    have hcs : (madeCells zv.cells (k * i.size)) = (Array.range (k * zv.cells.size)).map (zv.cells[· % zv.cells.size]!) := by unfold madeCells; rw [hzs]
    have hlen : (rep l0 k).length = k * i.size := by rw [rep_len, ← l1.len, Array.length_toList, hzs]
    refine ⟨_, _, _, .slice (some ⟨w.heap.size, 0, none⟩) n k, grow_set m _ ⟨w.heap.size, 0, k * i.size, i.size⟩, Nat.le_succ _, hs.alloc (ty := el) (fz := (0, 0)) (cs := madeCells zv.cells (k * i.size)) ?_ (by rw [hlen, size_madeCells]; exact Nat.le_refl _) (rep_one l2 k) fz00 (fun _ => rfl) (by rw [size_madeCells]; exact Nat.le_refl _) (by rw [hlen]; exact Nat.le_refl _), ?_, .inl ?_⟩
    · rw [hlen, List.take_of_length_le (by rw [Array.length_toList, size_madeCells]; exact Nat.le_refl _), hcs]
      exact hrep
    · simp only [VR]
      exact ⟨_, _, _, Mu.set_self _ _ _, rfl, b1, b3, fun _ => by simp, ⟨h0, rfl⟩, rfl⟩
    · simp [execOp, ho, h1, h2, hrun]
  · cases hv
theorem bytes_VRs (m : Mu) (l : List UInt8) : VRs m (l.map fun b => AV.int .u8 b.toNat) (l.map fun b => Value.int .u8 b.toNat) := by
  induction l with
  | nil => simp [VRs]
  | cons b l ih =>
    simp only [List.map_cons, VRs]
    exact ⟨_, _, rfl, rfl, ih⟩
theorem efok_s2b {s d el : TypeId} {x : Operand} {x' : Od} (ho : o.op = .convert s d x) (hs' : P.underlying s = some .string) (hd : P.underlying d = some (.slice el)) (he : P.underlying el = some (.int .u8)) (hx : odOf keep x = some x') : EfOK P keep o (.s2b x') := by
  intro O w0 w m φ h nt e t ac hs hf v h' hv
  have h1 := hf.od hx
  simp only [Ef.ev] at hv
  split at hv
  · rename_i l hl
    rw [hl] at h1
    simp only [VR] at h1
    obtain ⟨hb, hv⟩ := bif_some hv
    cases hv
    have hb := Nat.le_of_ble_eq_true hb
    have hrun := run_bytes_of_string (P := P) w s d el ⟨l.toArray⟩ hs' hd he
    have hsz : (⟨l.toArray⟩ : ByteArray).size = l.length := by show l.toArray.size = _; simp
    rw [hsz] at hrun
    have hge := grownCap_ge w l.length 0 el
    have hcm := grownCap_le_maxLen w l.length 0 el hb
    generalize grownCap w l.length 0 el = cap at *
    have hrow : bytesRow ⟨l.toArray⟩ cap = (l.map fun b => Value.int .u8 b.toNat).toArray ++ Array.replicate (cap - l.length) (.int .u8 0) := by
      unfold bytesRow; rw [hsz]; simp
    have hrsz : (bytesRow ⟨l.toArray⟩ cap).size = cap := by rw [hrow]; simp; omega
    have hv1 := bytes_VRs m l
    rw [hrsz] at hrun
    refine ⟨_, _, _, .slice (some ⟨w.heap.size, 0, none⟩) l.length cap, grow_set m _ ⟨w.heap.size, 0, cap, 1⟩, Nat.le_succ _, hs.drew.alloc (ty := el) (fz := (cap, cap + 1)) (cs := bytesRow ⟨l.toArray⟩ cap) (z := 1) (e := cap) ?_ (by rw [hrsz]; simpa using hge) (fun a ha => ?_) (.inr (by rw [hrsz]; exact Nat.le_refl _)) (fun h0 => by cases h0) (by rw [hrsz]; exact Nat.le_refl _) (by simpa using hge), ?_, .inl ?_⟩
    · rw [hrow]
      simp only [Array.toList_append, List.length_map]
      rw [List.take_append_of_le_length (by simp), List.take_of_length_le (by simp)]
      exact hv1
    · obtain ⟨b, _, rfl⟩ := List.mem_map.1 ha; rfl
    · simp only [VR]
      exact ⟨_, _, _, Mu.set_self _ _ _, rfl, hge, hcm, fun _ => by simp, ⟨Nat.zero_lt_one, rfl⟩, by show 0 + 0 + cap * 1 = cap; omega⟩
    · simp [execOp, ho, h1, hrun]
  · cases hv
theorem efok_mark {s el : TypeId} {x : Operand} {x' : Od} (ho : o.op = .convert s s x) (hs' : P.underlying s = some (.slice el)) (he : P.underlying el = some (.int .u8)) (hx : odOf keep x = some x') : EfOK P keep o (.mark x') := by
  intro O w0 w m φ h nt e t ac hs hf v h' hv
  have h1 := hf.od hx
  simp only [Ef.ev] at hv
  split at hv
  · rename_i z g off len cap hl
    rw [hl] at h1
    by_cases hl0 : len = 0
    · subst hl0; cases hv
    rw [nbeq hl0] at hv
    simp only [cond_false] at hv
    split at hv
    · rename_i l hg
      cases hv
      have h1' := h1
      simp only [VR] at h1
      obtain ⟨p, ad, c, hp, hval, hlc, hcm, had, ⟨hz0, hpz⟩, hcap⟩ := h1
      have blk := hs.blk g _ hg p hp
      obtain ⟨cs, ty, fz, b1, b2, b3, b4, b5, b6, b7⟩ := blk
      -- whatever block the address names: a mark behind its end
      have frz : ∀ (b n : Nat), (w.shape? b).map (·.2) = some n → (w.freeze ⟨b, n, none⟩ 1).heap.size = w.heap.size ∧ (w.freeze ⟨b, n, none⟩ 1).os = w.os ∧ (w.freeze ⟨b, n, none⟩ 1).tape = w.tape ∧ (w.freeze ⟨b, n, none⟩ 1).output = w.output ∧
          (∀ k, k ≠ b → (w.freeze ⟨b, n, none⟩ 1).heap[k]? = w.heap[k]?) ∧ ∀ cs ty fz, w.heap[b]? = some (.cells cs ty fz) → (w.freeze ⟨b, n, none⟩ 1).heap[b]? = some (.cells cs ty (if fz.1 == fz.2 then (n, n + 1) else (min fz.1 n, max fz.2 (n + 1)))) := by
        intro b n _
        unfold World.freeze
        rw [if_neg (by decide)]
        refine ⟨by simp, rfl, rfl, rfl, fun k hk => ?_, fun cs ty fz hb => ?_⟩
        · show (w.heap.modify b _)[k]? = _
          rw [Array.getElem?_modify, if_neg (Ne.symm hk)]
        · show (w.heap.modify b _)[b]? = _
          rw [Array.getElem?_modify, if_pos rfl, hb]
          rfl
      have hc : c ≠ 0 := by omega
      · have e3 := had hc
        subst e3
        have hsh : w.shape? p.b = some (ty, cs.size) := by simp [World.shape?, b1]
        obtain ⟨f1, f2, f3, f4, f5, f6⟩ := frz p.b cs.size (by rw [hsh]; rfl)
        refine ⟨m, _, w.freeze ⟨p.b, cs.size, none⟩ 1, _, fun _ _ => rfl, Nat.le_refl _, hs.upd (c' := .rw l) (S' := fun k => k = p.b) hg rfl hp (w' := w.freeze ⟨p.b, cs.size, none⟩ 1) ⟨f2, f3, f4, by omega, fun k hk hn => f5 k (fun e => hn ((b6 k).2 e))⟩ ?_ rfl (fun k hk => .inl ((b6 k).2 hk)), h1', .inl ?_⟩
        · refine ⟨cs, ty, _, f6 cs ty fz b1, ?_, b3, b4, b5, fun k => Iff.rfl, fun h0 => by omega⟩
          split
          · exact .inr (Nat.le_refl _)
          · rename_i hne
            have hne : fz.1 ≠ fz.2 := by simpa using hne
            rcases b2 with b2 | b2
            · exact absurd b2 hne
            · exact .inr (by simp; omega)
        · have hrun : (convert s s (.slice (some ⟨p.b, p.s + off, none⟩) len c)).run P w = .ok (.slice (some ⟨p.b, p.s + off, none⟩) len c) (w.freeze ⟨p.b, cs.size, none⟩ 1) := by
            unfold convert
            simp only [Sem.run_bind, run_underlying hs', Result.andThen_ok]
            simp [run_underlying he, markStringish, hsh]
          rw [hval]
          simp [execOp, ho, hval, hrun]
    · cases hv
  · cases hv
end
end Am
end Go.Proofs.Ytmfobcejnkakpaa
