/- Laws of the builtins append, copy, clear at slices of whatever element, in the words of Base; of no program. -/
import Derived.Test.YtmfobcejnkakpaaBase
import Derived.Lib.AppendZeros
namespace Go.Proofs.Ytmfobcejnkakpaa
set_option linter.unusedVariables false
set_option linter.unusedSimpArgs false
open Go.RowKit

theorem rd_nil (w : World) (size : Nat) : Rd w size (.slice none 0 0) 0 [] := (Own.nil w 0 size).rd

theorem own_one {w : World} {b : Nat} {x : Value} {e : TypeId} (h : Blk w b #[x] e) : Own w e 1 (.slice (some ⟨b, 0, none⟩) 1 1) 1 [x] (some b) :=
  ⟨by simp, .inr ⟨b, 1, _, rfl, rfl, h, Nat.le_refl _, by unfold maxLen; omega, by simp, by simp⟩⟩
theorem own_void {w : World} {b : Nat} {e : TypeId} (h : Blk w b #[] e) : Own w e 1 (.slice (some ⟨b, 0, none⟩) 0 0) 0 [] (some b) :=
  ⟨by simp, .inr ⟨b, 0, _, rfl, rfl, h, Nat.le_refl _, by unfold maxLen; omega, by simp, by simp⟩⟩
/-- memory that was made since was turned -/
theorem below_upd {w0 w w' : World} (h : Below w0.heap.size w0 w) {T : Nat → Prop} (hu : Upd T w w') (h2 : ∀ b, T b → w0.heap.size ≤ b) : Below w0.heap.size w0 w' :=
  Upd.toBelow ((Upd.of_below (S := NoBlock) h).trans hu (fun b hb => .inr (h2 b hb)))
theorem rd_one {w : World} {b : Nat} {x : Value} {e : TypeId} (h : Blk w b #[x] e) : Rd w 1 (.slice (some ⟨b, 0, none⟩) 1 1) 1 [x] := (own_one h).rd
theorem fresh_of {ob ob' : Option Nat} {n k : Nat} (h : ob' = ob ∨ ∀ g, ob' = some g → k ≤ g) (h1 : ∀ g, ob = some g → n ≤ g) (hk : n ≤ k) : ∀ g, ob' = some g → n ≤ g := by
  intro g hg
  rcases h with h | h
  · exact h1 g (by rw [← h, hg])
  · exact Nat.le_trans hk (h g hg)

/-- string(b) -/
theorem foldl_push (b : List UInt8) : ∀ s : ByteArray, (b.map fun x => ((x.toNat : Nat) : Int)).foldl (fun (r : ByteArray) n => r.push (UInt8.ofNat n.toNat)) s = ⟨s.data ++ b.toArray⟩ := by
  induction b with
  | nil => intro s; simp
  | cons x b ih =>
    intro s
    rw [List.map_cons, List.foldl_cons, ih]
    have e : UInt8.ofNat (((x.toNat : Nat) : Int).toNat) = x := by simp
    rw [e]
    simp [ByteArray.push]
theorem run_convStr {P : Program} {src dst e : TypeId} (hs : P.underlying src = some (.slice e)) (he : P.underlying e = some (.int .u8)) (hd : P.underlying dst = some .string) {w : World} {v : Value} {b : List UInt8}
    (h : Rd w 1 v b.length (b.map fun x => .int .u8 x.toNat)) : (convert src dst v).run P w = .ok (.string ⟨b.toArray⟩) w := by
  obtain ⟨hl, _, a, c, rfl, _, _, hnone, hc⟩ := h
  rw [run_convert_bytes_string w src dst e a b.length c hs he hd]
  cases a with
  | none =>
    have : b = [] := List.eq_nil_of_length_eq_zero (hnone rfl).1
    subst this
    rfl
  | some ad =>
    have hload : (loadCells ad b.length).run P w = .ok ((b.map fun x => ((x.toNat : Nat) : Int)).map (Value.int .u8)).toArray w := by
      have := run_loadCells_list (P := P) w ad (b.map fun x => Value.int .u8 x.toNat) ((hc ad rfl).2)
      rw [List.length_map] at this
      rw [this, List.map_map]; rfl
    rw [run_bytesToString w ad b.length c _ hload, foldl_push]
    simp

/-- guards: which operation comes next -/
theorem at_dst {P : Program} {ops : Array Oper} {Q : Exit → Act → World → Prop} {op : Op} {ty : TypeId} {pos : String} {af : Array Edge} {gu : Option (Nat × Bool)} {rest : List Oper} {a : Act} {w : World} (d : Tmp)
    (h : wpList P ops Q (⟨some d, op, ty, pos, af, gu⟩ :: rest) a w) : wpList P ops Q (⟨some d, op, ty, pos, af, gu⟩ :: rest) a w := h
theorem at_clear {P : Program} {ops : Array Oper} {Q : Exit → Act → World → Prop} {ar : Array Operand} {at_ : Array TypeId} {ty : TypeId} {pos : String} {af : Array Edge} {gu : Option (Nat × Bool)} {rest : List Oper} {a : Act} {w : World}
    (h : wpList P ops Q (⟨none, .call { callee := .builtin .clear, args := ar, argTypes := at_ }, ty, pos, af, gu⟩ :: rest) a w) : wpList P ops Q (⟨none, .call { callee := .builtin .clear, args := ar, argTypes := at_ }, ty, pos, af, gu⟩ :: rest) a w := h

section
variable {P : Program} (w : World)

/-- append, whatever is appended: in place or in new memory -/
theorem run_append_gen (t ty e : TypeId) (i : TypeInfo) (z : Value) (size bytes : Nat) (ht : P.underlying t = some (.slice e)) (hi : P.info? e = some i) (hz : i.zero = some z)
    (hsize : i.size = size) (hby : i.bytes = bytes) (hzs : z.cells.size = size) (hsz : 0 < size)
    (v : Value) (n : Nat) (xs : List Value) (ob : Option Nat) (hown : Own w e size v n xs ob)
    (x : Value) (m : Nat) (news : List Value) (hx : Rd w size x m news) (h1 : ∀ u ∈ news, u.oneCell' = true)
    (h63 : n + m ≤ maxLen) (hbytes : (n + m) * bytes ≤ 140737488355328) :
    ∃ v' w' ob', (Builtin.append_ #[t, t] ty #[v, x]).run P w = .ok v' w' ∧ Own w' e size v' (n + m) (xs ++ news) ob' ∧ Upd (fun b => ob = some b) w w' ∧
      (ob' = ob ∨ ∀ g, ob' = some g → w.heap.size ≤ g) := by
  subst hsize
  subst hby
  have hsmall : n + m ≤ 9223372036854775807 := by simp only [maxLen] at h63; omega
  obtain ⟨hl, hmm, ax, c, rfl, hmc, hcm', hnone, hcells⟩ := hx
  have hlen : (xs ++ news).length = (n + m) * i.size := by rw [List.length_append, hown.1, hl, Nat.add_mul]
  have grown : ∀ (old : Nat), old < n + m →
      Own (w.drew.alloc (.cells (xs.toArray ++ news.toArray ++ Builtin.zeroCells z.cells (grownCap w (n + m) old e - (n + m))) e)) e i.size
        (.slice (some ⟨w.heap.size, 0, none⟩) (n + m) (grownCap w (n + m) old e)) (n + m) (xs ++ news) (some w.heap.size) := by
    intro old ho
    have hge := grownCap_ge w (n + m) old e
    have hcm : grownCap w (n + m) old e ≤ maxLen := grownCap_le_maxLen w (n + m) old e h63
    refine ⟨hlen, .inr ⟨w.heap.size, _, _, rfl, rfl, heap_alloc_new w.drew _, hge, hcm, ?_, ?_⟩⟩
    · have he : (xs.toArray ++ news.toArray ++ Builtin.zeroCells z.cells (grownCap w (n + m) old e - (n + m))).size = grownCap w (n + m) old e * i.size := by
        simp only [Array.size_append, List.size_toArray, size_zeroCells, hzs, hown.1, hl, ← Nat.add_mul]
        congr 1
        omega
      omega
    · simp only [Array.toList_append, List.append_assoc]
      rw [← List.append_assoc, ← hlen]
      exact List.take_left
  have ugrown : ∀ (C : Array Value), Upd (fun b => ob = some b) w (w.drew.alloc (.cells C e)) := fun C => ((Upd.refl _ _).drew).alloc _
  by_cases hm : m = 0
  · subst hm
    have hn : news = [] := List.eq_nil_of_length_eq_zero (by simpa using hl)
    subst hn
    refine ⟨v, w, ob, ?_, by simpa using hown, Upd.refl _ _, .inl rfl⟩
    have hfc : (Builtin.firstCells i.size 0 (.slice ax 0 c)).run P w = .ok #[] w := by
      cases ax <;> simp [Builtin.firstCells, loadCells, loadCellsFrom]
    rcases hown.2 with ⟨rfl, rfl, rfl⟩ | ⟨g, cap, cur, rfl, rfl, hg, hnc, hcm, hcs, htake⟩
    · simp [Builtin.append_, run_underlying ht, sizeOf, typeInfo, hi, Builtin.lenOf, hfc]
    · simp [Builtin.append_, run_underlying ht, sizeOf, typeInfo, hi, Builtin.lenOf, hfc, hnc, storeCells]
  · cases ax with
    | none => exact absurd (hnone rfl).1 hm
    | some a =>
      have hnews : ∀ j u, news[j]? = some u → w.cell? (a.add j) = some u := (hcells a rfl).2
      rcases hown.2 with ⟨rfl, rfl, rfl⟩ | ⟨g, cap, cur, rfl, rfl, hg, hnc, hcm, hcs, htake⟩
      · have hx : xs = [] := List.eq_nil_of_length_eq_zero (by simpa using hown.1)
        subst hx
        have hr := run_append_nil (P := P) w t ty e i z ht hi hz a m c news hl hnews (by omega) (by omega) (by have hb := hbytes; simp only [Nat.zero_add] at hb; omega)
        have hgr := grown 0 (by omega)
        simp only [Nat.zero_add, List.nil_append, Array.empty_append] at hgr ⊢
        exact ⟨_, _, _, hr, hgr, ugrown _, .inr fun g hg => by cases hg; exact Nat.le_refl _⟩
      · by_cases hroom : n + m ≤ cap
        · have hfit : n * i.size + news.length ≤ cur.size := by
            rw [hl, ← Nat.add_mul]; exact Nat.le_trans (Nat.mul_le_mul_right _ hroom) hcs
          have hr := run_append_room (P := P) w t ty e i ht hi g n cap cur hg a m c news hl hnews h1 hroom hfit
          refine ⟨_, _, some g, hr, ⟨hlen, .inr ⟨g, cap, _, rfl, rfl, setRow_heap w g cur _ e _ hg, hroom, hcm, ?_, ?_⟩⟩, ⟨rfl, rfl, rfl, by simp [World.setRow], fun k hk hs => setRow_other w g k _ (fun e => hs (by rw [e]))⟩, .inl rfl⟩
          · simp only [List.size_toArray, List.length_append, List.length_take, List.length_drop, Array.length_toList]
            omega
          · rw [htake, ← hlen]
            exact List.take_left
        · have holds : ∀ j u, xs[j]? = some u → w.cell? ((⟨g, 0, none⟩ : Addr).add j) = some u := by
            obtain ⟨_, _, a0, c0, hv, _, _, _, h6⟩ := hown.rd
            cases hv
            exact (h6 _ rfl).2
          have hr := run_append_grow (P := P) w t ty e i z ht hi hz ⟨g, 0, none⟩ n cap xs hown.1 holds a m c news hl hnews (by omega) (by omega) (growslice_fits (by omega) hbytes)
          exact ⟨_, _, _, hr, grown cap (by omega), ugrown _, .inr fun g hg => by cases hg; exact Nat.le_refl _⟩
end

section
variable {P : Program} {w : World} {ops : Array Oper} {rest : List Oper} {o : Oper} {a : Act} {Q : Exit → Act → World → Prop} {K : Act → World → Prop}

/-- the operation append -/
theorem wp_append (s x : Operand) (t : TypeId) (ho : o.op = .call { callee := .builtin .append, args := #[s, x], argTypes := #[t, t] })
    (e : TypeId) (size bytes : Nat) (z : Value) (ht : P.underlying t = some (.slice e)) (hi : (P.info? e).map (fun i => (i.zero, i.size, i.bytes)) = some (some z, size, bytes))
    (hzs : z.cells.size = size) (hsz : 0 < size)
    (n : Nat) (xs : List Value) (ob : Option Nat) (hown : Own w e size (a.eval s) n xs ob) (m : Nat) (news : List Value) (hx : Rd w size (a.eval x) m news) (h1 : ∀ u ∈ news, u.oneCell' = true)
    (h63 : n + m ≤ maxLen) (hbytes : (n + m) * bytes ≤ 140737488355328)
    (h : ∀ v' w' ob', Own w' e size v' (n + m) (xs ++ news) ob' → Upd (fun b => ob = some b) w w' → (ob' = ob ∨ ∀ g, ob' = some g → w.heap.size ≤ g) → K (a.put o.dst v') w') : o.wp P a w K Q := by
  obtain ⟨i, hi', hz, hs, hb⟩ := info_parts hi
  obtain ⟨v', w', ob', hr, h2, h3, h4⟩ := run_append_gen (P := P) w t o.type e i z size bytes ht hi' hz hs hb hzs hsz _ n xs ob hown _ m news hx h1 h63 hbytes
  unfold Oper.wp execOp
  simp only [ho, resolve, invoke, builtin, Sem.run_bind, Sem.run_pure, Result.andThen_ok, List.map_toArray, List.map_cons, List.map_nil, hr]
  exact h v' w' ob' h2 h3 h4

theorem wpList_append (hgd : o.guard = none) (s x : Operand) (t : TypeId) (ho : o.op = .call { callee := .builtin .append, args := #[s, x], argTypes := #[t, t] })
    (e : TypeId) (size bytes : Nat) (z : Value) (ht : P.underlying t = some (.slice e)) (hi : (P.info? e).map (fun i => (i.zero, i.size, i.bytes)) = some (some z, size, bytes))
    (hzs : z.cells.size = size) (hsz : 0 < size)
    (n : Nat) (xs : List Value) (ob : Option Nat) (hown : Own w e size (a.eval s) n xs ob) (m : Nat) (news : List Value) (hx : Rd w size (a.eval x) m news) (h1 : ∀ u ∈ news, u.oneCell' = true)
    (h63 : n + m ≤ maxLen) (hbytes : (n + m) * bytes ≤ 140737488355328)
    (h : ∀ v' w' ob', Own w' e size v' (n + m) (xs ++ news) ob' → Upd (fun b => ob = some b) w w' → (ob' = ob ∨ ∀ g, ob' = some g → w.heap.size ≤ g) → wpList P ops Q rest (a.put o.dst v') w') :
    wpList P ops Q (o :: rest) a w :=
  wpList_plain hgd fun _ hK => wp_append s x t ho e size bytes z ht hi hzs hsz n xs ob hown m news hx h1 h63 hbytes fun v' w' ob' h2 h3 h4 => hK _ _ (h v' w' ob' h2 h3 h4)

theorem step_append (hgd : o.guard = none) {E : Prop} (s x : Operand) (t : TypeId) (ho : o.op = .call { callee := .builtin .append, args := #[s, x], argTypes := #[t, t] })
    (e : TypeId) (size bytes : Nat) (z : Value) (ht : P.underlying t = some (.slice e)) (hi : (P.info? e).map (fun i => (i.zero, i.size, i.bytes)) = some (some z, size, bytes))
    (hzs : z.cells.size = size) (hsz : 0 < size)
    (n : Nat) (xs : List Value) (ob : Option Nat) (hown : Own w e size (a.eval s) n xs ob) (m : Nat) (news : List Value) (hx : Rd w size (a.eval x) m news) (h1 : ∀ u ∈ news, u.oneCell' = true)
    (h63 : n + m ≤ maxLen) (hbytes : (n + m) * bytes ≤ 140737488355328)
    (h : ∀ v' w' ob', Own w' e size v' (n + m) (xs ++ news) ob' → Upd (fun b => ob = some b) w w' → (ob' = ob ∨ ∀ g, ob' = some g → w.heap.size ≤ g) → K (a.put o.dst v') w') :
    if Region.wanted o (yielded ops a.tmps) = true then Oper.wp P o a w K Q else E := by
  rw [if_pos (by simp [Region.wanted, hgd])]
  exact wp_append s x t ho e size bytes z ht hi hzs hsz n xs ob hown m news hx h1 h63 hbytes h

/-- copy into a block that is known whole -/
theorem run_copy_gen (w : World) (dT sT ty e : TypeId) (size : Nat) (hu : P.underlying dT = some (.slice e)) (hs : (P.info? e).map (·.size) = some size)
    (dp : Option Addr) (dLen dCap : Nat) (sp : Option Addr) (sLen sCap : Nat) (g off : Nat) (cur : Array Value) (t : TypeId) (hg : Blk w g cur t) (cs : List Value)
    (hn : cs.length = Nat.min sLen dLen * size) (hsz : 0 < size)
    (hpos : 0 < Nat.min sLen dLen → dp = some ⟨g, off, none⟩ ∧ ∃ ad, sp = some ad ∧ ∀ j v, cs[j]? = some v → w.cell? (ad.add j) = some v)
    (hfit : off + cs.length ≤ cur.size) (h1 : ∀ v ∈ cs, v.oneCell' = true) :
    ∃ w', (Builtin.copy_ #[dT, sT] ty #[.slice dp dLen dCap, .slice sp sLen sCap]).run P w = .ok (goInt (Nat.min sLen dLen)) w' ∧ Blk w' g (cur.toList.take off ++ (cs ++ cur.toList.drop (off + cs.length))).toArray t ∧ Upd (fun b => b = g) w w' := by
  obtain ⟨i, hi, hsi⟩ := Option.map_eq_some_iff.1 hs
  by_cases h0 : Nat.min sLen dLen = 0
  · have hcs : cs = [] := List.eq_nil_of_length_eq_zero (by rw [hn, h0, Nat.zero_mul])
    subst hcs
    refine ⟨w, ?_, by simpa using hg, Upd.refl _ _⟩
    have hfc : (Builtin.firstCells i.size 0 (.slice sp sLen sCap)).run P w = .ok #[] w := by
      cases sp <;> simp [Builtin.firstCells, loadCells, loadCellsFrom]
    cases dp <;> simp [Builtin.copy_, run_underlying hu, sizeOf, typeInfo, hi, Builtin.lenOf, h0, hfc, storeCells]
  · obtain ⟨rfl, ad, rfl, hsrc⟩ := hpos (by omega)
    have hf := run_firstCells_some (P := P) w size (Nat.min sLen dLen) ad sLen sCap cs hn hsrc
    have hst := run_storeCells_at P g off t cs 0 cur w hg (by simpa using hfit) h1
    simp only [Nat.add_zero] at hst
    rw [List.append_assoc] at hst
    refine ⟨w.setRow g (cur.toList.take off ++ (cs ++ cur.toList.drop (off + cs.length))).toArray, ?_, hg.setRow _, ⟨rfl, rfl, rfl, by simp [World.setRow], fun k hk hs => setRow_other w g k _ hs⟩⟩
    simp [Builtin.copy_, run_underlying hu, sizeOf, typeInfo, hi, hsi, Builtin.lenOf, hf, hst]

theorem wp_copy (d s : Operand) (dT sT : TypeId) (ho : o.op = .call { callee := .builtin .copy, args := #[d, s], argTypes := #[dT, sT] }) (e : TypeId) (size : Nat)
    (hu : P.underlying dT = some (.slice e)) (hs : (P.info? e).map (·.size) = some size) (hsz : 0 < size)
    (dp : Option Addr) (dLen dCap : Nat) (hd : a.eval d = .slice dp dLen dCap) (sp : Option Addr) (sLen sCap : Nat) (hsv : a.eval s = .slice sp sLen sCap)
    (g off : Nat) (cur : Array Value) (t : TypeId) (hg : Blk w g cur t) (cs : List Value) (hn : cs.length = Nat.min sLen dLen * size)
    (hpos : 0 < Nat.min sLen dLen → dp = some ⟨g, off, none⟩ ∧ ∃ ad, sp = some ad ∧ ∀ j v, cs[j]? = some v → w.cell? (ad.add j) = some v)
    (hfit : off + cs.length ≤ cur.size) (h1 : ∀ v ∈ cs, v.oneCell' = true)
    (h : ∀ w', Blk w' g (cur.toList.take off ++ (cs ++ cur.toList.drop (off + cs.length))).toArray t → Upd (fun b => b = g) w w' → K (a.put o.dst (goInt (Nat.min sLen dLen))) w') : o.wp P a w K Q := by
  obtain ⟨w', hr, h2, h3⟩ := run_copy_gen (P := P) w dT sT o.type e size hu hs dp dLen dCap sp sLen sCap g off cur t hg cs hn hsz hpos hfit h1
  unfold Oper.wp execOp
  simp only [ho, resolve, invoke, builtin, Sem.run_bind, Sem.run_pure, Result.andThen_ok, List.map_toArray, List.map_cons, List.map_nil, hd, hsv, hr]
  exact h w' h2 h3

theorem wpList_copy (hgd : o.guard = none) (d s : Operand) (dT sT : TypeId) (ho : o.op = .call { callee := .builtin .copy, args := #[d, s], argTypes := #[dT, sT] }) (e : TypeId) (size : Nat)
    (hu : P.underlying dT = some (.slice e)) (hs : (P.info? e).map (·.size) = some size) (hsz : 0 < size)
    (dp : Option Addr) (dLen dCap : Nat) (hd : a.eval d = .slice dp dLen dCap) (sp : Option Addr) (sLen sCap : Nat) (hsv : a.eval s = .slice sp sLen sCap)
    (g off : Nat) (cur : Array Value) (t : TypeId) (hg : Blk w g cur t) (cs : List Value) (hn : cs.length = Nat.min sLen dLen * size)
    (hpos : 0 < Nat.min sLen dLen → dp = some ⟨g, off, none⟩ ∧ ∃ ad, sp = some ad ∧ ∀ j v, cs[j]? = some v → w.cell? (ad.add j) = some v)
    (hfit : off + cs.length ≤ cur.size) (h1 : ∀ v ∈ cs, v.oneCell' = true)
    (h : ∀ w', Blk w' g (cur.toList.take off ++ (cs ++ cur.toList.drop (off + cs.length))).toArray t → Upd (fun b => b = g) w w' → wpList P ops Q rest (a.put o.dst (goInt (Nat.min sLen dLen))) w') :
    wpList P ops Q (o :: rest) a w :=
  wpList_plain hgd fun _ hK => wp_copy d s dT sT ho e size hu hs hsz dp dLen dCap hd sp sLen sCap hsv g off cur t hg cs hn hpos hfit h1 fun w' h2 h3 => hK _ _ (h w' h2 h3)

theorem step_copy (hgd : o.guard = none) {E : Prop} (d s : Operand) (dT sT : TypeId) (ho : o.op = .call { callee := .builtin .copy, args := #[d, s], argTypes := #[dT, sT] }) (e : TypeId) (size : Nat)
    (hu : P.underlying dT = some (.slice e)) (hs : (P.info? e).map (·.size) = some size) (hsz : 0 < size)
    (dp : Option Addr) (dLen dCap : Nat) (hd : a.eval d = .slice dp dLen dCap) (sp : Option Addr) (sLen sCap : Nat) (hsv : a.eval s = .slice sp sLen sCap)
    (g off : Nat) (cur : Array Value) (t : TypeId) (hg : Blk w g cur t) (cs : List Value) (hn : cs.length = Nat.min sLen dLen * size)
    (hpos : 0 < Nat.min sLen dLen → dp = some ⟨g, off, none⟩ ∧ ∃ ad, sp = some ad ∧ ∀ j v, cs[j]? = some v → w.cell? (ad.add j) = some v)
    (hfit : off + cs.length ≤ cur.size) (h1 : ∀ v ∈ cs, v.oneCell' = true)
    (h : ∀ w', Blk w' g (cur.toList.take off ++ (cs ++ cur.toList.drop (off + cs.length))).toArray t → Upd (fun b => b = g) w w' → K (a.put o.dst (goInt (Nat.min sLen dLen))) w') :
    if Region.wanted o (yielded ops a.tmps) = true then Oper.wp P o a w K Q else E := by
  rw [if_pos (by simp [Region.wanted, hgd])]
  exact wp_copy d s dT sT ho e size hu hs hsz dp dLen dCap hd sp sLen sCap hsv g off cur t hg cs hn hpos hfit h1 h
end

section
variable {P : Program}
theorem toList_zeroCells_one (z : Value) (n : Nat) : (Builtin.zeroCells #[z] n).toList = List.replicate n z := by
  apply List.ext_getElem
  · simp [Builtin.zeroCells]
  · intro i h1 h2
    simp [Builtin.zeroCells, Nat.mod_one]

/-- append(s[:i], make(S, m)...) where it grows: a new row -/
theorem run_append_zeros_grow (w : World) (t tn ty e : TypeId) (i : TypeInfo) (z : Value) (kn k : IntKind) (size bytes : Nat) (ht : P.underlying t = some (.slice e)) (htn : P.underlying tn = some (.int kn)) (hi : P.info? e = some i) (hz : i.zero = some z)
    (hsize : i.size = size) (hby : i.bytes = bytes) (hzs : z.cells.size = size) (hsz : 0 < size)
    (v : Value) (n cap : Nat) (ad : Option Addr) (hv : v = .slice ad n cap) (xs : List Value) (hx : Rd w size v n xs) (m : Nat) (hm : 0 < m) (hg : cap < n + m)
    (h63 : n + m ≤ maxLen) (hbytes : (n + m) * bytes ≤ 140737488355328) :
    ∃ w' cap', (Builtin.append_ #[t, tn] ty #[v, .int k m]).run P w = .ok (.slice (some ⟨w.heap.size, 0, none⟩) (n + m) cap') w' ∧
      Blk w' w.heap.size (xs.toArray ++ Builtin.zeroCells z.cells m ++ Builtin.zeroCells z.cells (cap' - (n + m))) e ∧ n + m ≤ cap' ∧ cap' ≤ maxLen ∧ Upd NoBlock w w' := by
  subst hv
  subst hsize
  subst hby
  have hsmall : n + m ≤ 9223372036854775807 := by simp only [maxLen] at h63; omega
  have hm0 : m ≠ 0 := by omega
  have hw : IntKind.i64.wrap (m : Int) = m := by rw [IntKind.wrap_i64]; omega
  have h63' : ¬ (9223372036854775807 < (n : Int) + (m : Int)) := by omega
  have h48' : ¬ (281474976710656 < Builtin.nextslicecap (n + m) cap * i.bytes) := by
    have := growslice_fits (need := n + m) (old := cap) hg hbytes; omega
  have hmb : m * i.bytes ≤ (n + m) * i.bytes := Nat.mul_le_mul_right _ (by omega)
  have h48i : ¬ (281474976710656 < (m : Int) * (i.bytes : Int)) := by
    rw [← Int.natCast_mul]
    omega
  have hneg : ¬ ((m : Int) < 0) := by omega
  have hns : ¬ (m * i.size = 0) := Nat.mul_ne_zero hm0 (by omega)
  have hnc : ¬ (n + m ≤ cap) := by omega
  obtain ⟨hl, _, a', c', hv', _, _, hnone, hcells⟩ := hx
  cases hv'
  have hfc : ∀ w', (∀ a, w'.cell? a = w.cell? a) → (Builtin.firstCells i.size n (.slice ad n cap)).run P w' = .ok xs.toArray w' := by
    intro w' hw'
    cases ad with
    | none =>
      obtain ⟨rfl, _⟩ := hnone rfl
      obtain rfl : xs = [] := List.eq_nil_of_length_eq_zero (by simpa using hl)
      simp [Builtin.firstCells]
    | some b => exact run_firstCells_some (P := P) w' i.size n b n cap xs hl (fun j u hu => by rw [hw']; exact (hcells b rfl).2 j u hu)
  refine ⟨w.drew.alloc (.cells (xs.toArray ++ Builtin.zeroCells z.cells m ++ Builtin.zeroCells z.cells (grownCap w (n + m) cap e - (n + m))) e), grownCap w (n + m) cap e, ?_, heap_alloc_new w.drew _, grownCap_ge _ _ _ _, grownCap_le_maxLen _ _ _ _ h63, ((Upd.refl _ _).drew).alloc _⟩
  simp [Builtin.append_, run_underlying ht, run_underlying htn, sizeOf, typeInfo, zeroValue, hi, hz, asInt, asIntOf, hw, hm0, hneg, hns, h63', h48', h48i, hnc, Question.forced, hfc w.drew (fun _ => rfl), newRow, grownCap]

theorem zeros_shape {w : World} {h : Nat} {xs : List Value} {z : Value} {n k : Nat} {e : TypeId} (hb : Blk w h (xs.toArray ++ Builtin.zeroCells z.cells n ++ Builtin.zeroCells z.cells k) e) :
    ∃ Z : List Value, Blk w h (xs ++ Z).toArray e ∧ Z.length = (n + k) * z.cells.size := by
  refine ⟨(Builtin.zeroCells z.cells n).toList ++ (Builtin.zeroCells z.cells k).toList, ?_, ?_⟩
  · have e1 : (xs.toArray ++ Builtin.zeroCells z.cells n ++ Builtin.zeroCells z.cells k) = (xs ++ ((Builtin.zeroCells z.cells n).toList ++ (Builtin.zeroCells z.cells k).toList)).toArray := by
      apply Array.ext'
      simp
    rw [e1] at hb
    exact hb
  · rw [List.length_append, Array.length_toList, Array.length_toList, size_zeroCells, size_zeroCells, Nat.add_mul]

theorem blk_splice {w : World} {g off : Nat} {A Z cs : List Value} {t : TypeId} (h : Blk w g ((A ++ Z).toArray.toList.take off ++ (cs ++ (A ++ Z).toArray.toList.drop (off + cs.length))).toArray t) (hA : A.length = off) : Blk w g (A ++ (cs ++ Z.drop cs.length)).toArray t := by
  subst hA
  have e : A.drop (A.length + cs.length) = [] := List.drop_eq_nil_of_le (by omega)
  simpa [List.drop_append, e] using h

/-- clear of a slice's elements -/
theorem run_clear_gen (w : World) (t ty e : TypeId) (i : TypeInfo) (z : Value) (size : Nat) (ht : P.underlying t = some (.slice e)) (hi : P.info? e = some i) (hz : i.zero = some z) (hsize : i.size = size) (hzs : z.cells.size = size) (hz1 : ∀ u ∈ z.cells, u.oneCell' = true)
    (g off n cap : Nat) (cur : Array Value) (T : TypeId) (hg : Blk w g cur T) (hfit : off + n * size ≤ cur.size) (hn : 0 < n) :
    ∃ w', (Builtin.clear_ #[t] ty #[.slice (some ⟨g, off, none⟩) n cap]).run P w = .ok (.tuple #[]) w' ∧ Blk w' g (cur.toList.take off ++ ((Builtin.zeroCells z.cells n).toList ++ cur.toList.drop (off + n * size))).toArray T ∧ Upd (fun b => b = g) w w' := by
  obtain ⟨n, rfl⟩ : ∃ k, n = k + 1 := ⟨n - 1, by omega⟩
  subst hsize
  have hl : (Builtin.zeroCells z.cells (n + 1)).toList.length = (n + 1) * i.size := by rw [Array.length_toList, size_zeroCells, hzs]
  have h1 : ∀ u ∈ (Builtin.zeroCells z.cells (n + 1)).toList, u.oneCell' = true := by
    intro u hu
    simp only [Builtin.zeroCells, Array.toList_map, List.mem_map] at hu
    obtain ⟨j, hj, rfl⟩ := hu
    have hj' : j < (n + 1) * z.cells.size := by simpa using hj
    have hp : 0 < z.cells.size := by
      rcases Nat.eq_zero_or_pos z.cells.size with h0 | h0
      · rw [h0] at hj'; omega
      · exact h0
    rw [getElem!_pos z.cells (j % z.cells.size) (Nat.mod_lt _ hp)]
    exact hz1 _ (Array.getElem_mem _)
  have hst := run_storeCells_at P g off T (Builtin.zeroCells z.cells (n + 1)).toList 0 cur w hg (by rw [hl]; simpa using hfit) h1
  simp only [Nat.add_zero] at hst
  rw [List.append_assoc, hl] at hst
  refine ⟨_, ?_, hg.setRow _, ⟨rfl, rfl, rfl, by simp [World.setRow], fun k hk hs => setRow_other w g k _ hs⟩⟩
  simp only [Builtin.clear_]
  simp [run_underlying ht, zeroValue, typeInfo, hi, hz, hst]

variable {w : World} {ops : Array Oper} {rest : List Oper} {o : Oper} {a : Act} {Q : Exit → Act → World → Prop} {K : Act → World → Prop}
theorem wpList_append_zeros (hgd : o.guard = none) (s x : Operand) (t tn : TypeId) (ho : o.op = .call { callee := .builtin .append, args := #[s, x], argTypes := #[t, tn] })
    (e : TypeId) (size bytes : Nat) (z : Value) (kn k : IntKind) (ht : P.underlying t = some (.slice e)) (htn : P.underlying tn = some (.int kn)) (hi : (P.info? e).map (fun i => (i.zero, i.size, i.bytes)) = some (some z, size, bytes))
    (hzs : z.cells.size = size) (hsz : 0 < size)
    (n cap : Nat) (ad : Option Addr) (hv : a.eval s = .slice ad n cap) (xs : List Value) (hx : Rd w size (.slice ad n cap) n xs) (m : Nat) (hxm : a.eval x = .int k m) (hm : 0 < m) (hg : cap < n + m)
    (h63 : n + m ≤ maxLen) (hbytes : (n + m) * bytes ≤ 140737488355328)
    (h : ∀ w' cap', Blk w' w.heap.size (xs.toArray ++ Builtin.zeroCells z.cells m ++ Builtin.zeroCells z.cells (cap' - (n + m))) e → n + m ≤ cap' → cap' ≤ maxLen → Upd NoBlock w w' → wpList P ops Q rest (a.put o.dst (.slice (some ⟨w.heap.size, 0, none⟩) (n + m) cap')) w') :
    wpList P ops Q (o :: rest) a w := by
  obtain ⟨i, hi', hz, hs, hb⟩ := info_parts hi
  obtain ⟨w', cap', hr, h2, h3, h4, h5⟩ := run_append_zeros_grow (P := P) w t tn o.type e i z kn k size bytes ht htn hi' hz hs hb hzs hsz _ n cap ad rfl xs hx m hm hg h63 hbytes
  exact Lib.wpList_append_run w hgd s x t tn ho _ _ hv hxm _ _ hr (h w' cap' h2 h3 h4 h5)

theorem wpList_clear (hgd : o.guard = none) (s : Operand) (t : TypeId) (ho : o.op = .call { callee := .builtin .clear, args := #[s], argTypes := #[t] })
    (e : TypeId) (size bytes : Nat) (z : Value) (ht : P.underlying t = some (.slice e)) (hi : (P.info? e).map (fun i => (i.zero, i.size, i.bytes)) = some (some z, size, bytes)) (hzs : z.cells.size = size) (hz1 : ∀ u ∈ z.cells, u.oneCell' = true)
    (g off n cap : Nat) (hs : a.eval s = .slice (some ⟨g, off, none⟩) n cap) (cur : Array Value) (T : TypeId) (hg : Blk w g cur T) (hfit : off + n * size ≤ cur.size) (hn : 0 < n)
    (h : ∀ w', Blk w' g (cur.toList.take off ++ ((Builtin.zeroCells z.cells n).toList ++ cur.toList.drop (off + n * size))).toArray T → Upd (fun b => b = g) w w' → wpList P ops Q rest (a.put o.dst (.tuple #[])) w') :
    wpList P ops Q (o :: rest) a w :=
  wpList_plain hgd fun _ hK => by
    obtain ⟨i, hi', hz, hsz, hb⟩ := info_parts hi
    obtain ⟨w', hr, h2, h3⟩ := run_clear_gen (P := P) w t o.type e i z size ht hi' hz hsz hzs hz1 g off n cap cur T hg hfit hn
    unfold Oper.wp execOp
    simp only [ho, resolve, invoke, builtin, Sem.run_bind, Sem.run_pure, Result.andThen_ok, List.map_toArray, List.map_cons, List.map_nil, hs, hr]
    exact hK _ _ (h w' h2 h3)
end

section
variable {P : Program} {w : World} {ops : Array Oper} {rest : List Oper} {o : Oper} {a : Act} {Q : Exit → Act → World → Prop} {K : Act → World → Prop}
/-- append within the capacity, into a block that is known whole; the source may lie in the same block -/
theorem wp_append_in (s x : Operand) (t : TypeId) (ho : o.op = .call { callee := .builtin .append, args := #[s, x], argTypes := #[t, t] })
    (e : TypeId) (size : Nat) (ht : P.underlying t = some (.slice e)) (hs : (P.info? e).map (·.size) = some size)
    (g n cap : Nat) (hsv : a.eval s = .slice (some ⟨g, 0, none⟩) n cap) (cur : Array Value) (T : TypeId) (hg : Blk w g cur T) (ax : Option Addr) (m c : Nat) (hxv : a.eval x = .slice ax m c) (news : List Value) (hl : news.length = m * size)
    (hx : 0 < m → ∃ ad, ax = some ad ∧ ∀ j u, news[j]? = some u → w.cell? (ad.add j) = some u) (h1 : ∀ u ∈ news, u.oneCell' = true) (hroom : n + m ≤ cap) (hfit : n * size + news.length ≤ cur.size)
    (h : ∀ w', Blk w' g (cur.toList.take (n * size) ++ (news ++ cur.toList.drop (n * size + news.length))).toArray T → Upd (fun b => b = g) w w' → K (a.put o.dst (.slice (some ⟨g, 0, none⟩) (n + m) cap)) w') : o.wp P a w K Q := by
  obtain ⟨i, hi, hsi⟩ := Option.map_eq_some_iff.1 hs
  subst hsi
  by_cases hm : m = 0
  · subst hm
    have hn : news = [] := List.eq_nil_of_length_eq_zero (by simpa using hl)
    subst hn
    have hfc : (Builtin.firstCells i.size 0 (.slice ax 0 c)).run P w = .ok #[] w := by
      cases ax <;> simp [Builtin.firstCells, loadCells, loadCellsFrom]
    have hr : (Builtin.append_ #[t, t] o.type #[.slice (some ⟨g, 0, none⟩) n cap, .slice ax 0 c]).run P w = .ok (.slice (some ⟨g, 0, none⟩) n cap) w := by
      have hnc : n ≤ cap := by omega
      simp [Builtin.append_, run_underlying ht, sizeOf, typeInfo, hi, Builtin.lenOf, hfc, hnc, storeCells]
    unfold Oper.wp execOp
    simp only [ho, resolve, invoke, builtin, Sem.run_bind, Sem.run_pure, Result.andThen_ok, List.map_toArray, List.map_cons, List.map_nil, hsv, hxv, hr]
    exact h w (by simpa using hg) (Upd.refl _ _)
  · obtain ⟨ad, rfl, hnews⟩ := hx (by omega)
    have hfc := run_firstCells_some (P := P) w i.size m ad m c news hl hnews
    have hst := run_storeCells_at P g (n * i.size) T news 0 cur w hg (by simpa using hfit) h1
    simp only [Nat.add_zero] at hst
    rw [List.append_assoc] at hst
    have hr : (Builtin.append_ #[t, t] o.type #[.slice (some ⟨g, 0, none⟩) n cap, .slice (some ad) m c]).run P w = .ok (.slice (some ⟨g, 0, none⟩) (n + m) cap) (w.setRow g (cur.toList.take (n * i.size) ++ (news ++ cur.toList.drop (n * i.size + news.length))).toArray) := by
      simp [Builtin.append_, run_underlying ht, sizeOf, typeInfo, hi, Builtin.lenOf, hfc, hroom, Addr.add_lit, hst]
    unfold Oper.wp execOp
    simp only [ho, resolve, invoke, builtin, Sem.run_bind, Sem.run_pure, Result.andThen_ok, List.map_toArray, List.map_cons, List.map_nil, hsv, hxv, hr]
    exact h _ (hg.setRow _) ⟨rfl, rfl, rfl, by simp [World.setRow], fun k hk hs => setRow_other w g k _ hs⟩

theorem step_append_in (hgd : o.guard = none) {E : Prop} (s x : Operand) (t : TypeId) (ho : o.op = .call { callee := .builtin .append, args := #[s, x], argTypes := #[t, t] })
    (e : TypeId) (size : Nat) (ht : P.underlying t = some (.slice e)) (hs : (P.info? e).map (·.size) = some size)
    (g n cap : Nat) (hsv : a.eval s = .slice (some ⟨g, 0, none⟩) n cap) (cur : Array Value) (T : TypeId) (hg : Blk w g cur T) (ax : Option Addr) (m c : Nat) (hxv : a.eval x = .slice ax m c) (news : List Value) (hl : news.length = m * size)
    (hx : 0 < m → ∃ ad, ax = some ad ∧ ∀ j u, news[j]? = some u → w.cell? (ad.add j) = some u) (h1 : ∀ u ∈ news, u.oneCell' = true) (hroom : n + m ≤ cap) (hfit : n * size + news.length ≤ cur.size)
    (h : ∀ w', Blk w' g (cur.toList.take (n * size) ++ (news ++ cur.toList.drop (n * size + news.length))).toArray T → Upd (fun b => b = g) w w' → K (a.put o.dst (.slice (some ⟨g, 0, none⟩) (n + m) cap)) w') :
    if Region.wanted o (yielded ops a.tmps) = true then Oper.wp P o a w K Q else E := by
  rw [if_pos (by simp [Region.wanted, hgd])]
  exact wp_append_in s x t ho e size ht hs g n cap hsv cur T hg ax m c hxv news hl hx h1 hroom hfit h
end

section
variable {P : Program} {w : World} {ops : Array Oper} {rest : List Oper} {o : Oper} {a : Act} {Q : Exit → Act → World → Prop} {K : Act → World → Prop}
/-- one step of a region, whose guard says yes -/
theorem step_of_wp {E : Prop} (hw : Region.wanted o (yielded ops a.tmps) = true) (h : o.wp P a w K Q) : if Region.wanted o (yielded ops a.tmps) = true then Oper.wp P o a w K Q else E := by
  rw [if_pos hw]; exact h
theorem wpList_of_wp (hw : Region.wanted o (yielded ops a.tmps) = true) (h : ∀ K : Act → World → Prop, (∀ a w, wpList P ops Q rest a w → K a w) → o.wp P a w K Q) : wpList P ops Q (o :: rest) a w :=
  wpList_step fun K hK => by rw [if_pos hw]; exact h K hK
/-- a call of a Go function by name -/
theorem wp_call (f : FuncId) (args : Array Operand) (ts : Array TypeId) (ho : o.op = .call { callee := .value (.func f), args := args, argTypes := ts }) (vs : Array Value) (hvs : args.map a.eval = vs)
    (henter : ∀ (xs : Array Value) (w : World), (callFunc f xs).run P w = .ok (.enter f xs) w)
    (h : Calls P f vs w fun e w' => ∃ v, e = .returned v ∧ K (a.put o.dst v) w') : o.wp P a w K Q := by
  subst hvs
  unfold Oper.wp
  have hr : (execOp a.eval o).run P w = .ok (.enter f (args.map a.eval)) w := by
    unfold execOp
    simp only [ho, resolve, Act.eval]
    simp [Act.eval, Deferred.ofValue, invoke, henter]
  rw [hr, Oper.upon_enter]
  exact h.mono fun e w' ⟨v, he, hk⟩ => by subst he; exact hk
end
end Go.Proofs.Ytmfobcejnkakpaa
