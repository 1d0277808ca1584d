/- The plain machine: append, copy, clear, make, and slices that are built. -/
import Derived.Test.YtmfobcejnkakpaaAm7
namespace Go.Proofs.Ytmfobcejnkakpaa
set_option linter.unusedVariables false
set_option linter.unusedSimpArgs false
namespace Am
open Go.RowKit
set_option maxRecDepth 10000
variable {P : Program}

section
variable {O : Objs} {w0 w : World} {m : Mu} {φ : Ph} {h : Hp O.X}
theorem elems_ok (hs : SR O w0 w m φ h) {z n : Nat} {y : AV} {r : List AV} {v : Value} (he : elems h z y = some (n, r)) (hv : VR m y v) :
    ∃ ad c vs, v = .slice ad n c ∧ n ≤ c ∧ c ≤ maxLen ∧ VRs m r vs ∧ vs.length = n * z ∧ r.length = n * z ∧ (∀ a ∈ r, a.one = true) ∧ (ad = none → n = 0 ∧ c = 0) ∧ (∀ x, ad = some x → ∀ (j : Nat) u, vs[j]? = some u → w.cell? (x.add j) = some u) := by
  unfold elems at he
  split at he
  · cases he
    simp only [VR] at hv
    subst hv
    exact ⟨none, 0, [], rfl, Nat.le_refl _, by unfold maxLen; omega, by simp [VRs], by simp, by simp, by simp, fun _ => ⟨rfl, rfl⟩, fun x hx => by cases hx⟩
  · cases he
    simp only [VR] at hv
    obtain ⟨a, c, rfl, hcm, hn⟩ := hv
    exact ⟨a, c, [], rfl, Nat.zero_le _, hcm, by simp [VRs], by simp, by simp, by simp, fun h => ⟨rfl, hn h⟩, fun x _ j u hj => by simp at hj⟩
  · rename_i z' g off len cap
    cases hz : Nat.beq z' z with
    | false => rw [hz] at he; cases he
    | true =>
      rw [hz] at he
      simp only [cond_true] at he
      have hz := Nat.eq_of_beq_eq_true hz
      cases hr : rowOf h g with
      | none => rw [hr] at he; cases he
      | some l =>
        rw [hr] at he
        simp only at he
        cases ht : takeN (len * z) off l with
        | none => rw [ht] at he; cases he
        | some r' =>
          rw [ht] at he
          cases he
          simp only [VR] at hv
          obtain ⟨p, ad, c, hp, rfl, hlc, hcm, had, ⟨hz0, hpz⟩, _⟩ := hv
          obtain ⟨hrow, _⟩ := hs.row hp (rowOf_some hr)
          obtain ⟨vs, k1, k2, k3, k4⟩ := row_vals hrow ht
          refine ⟨some ad, c, vs, rfl, hlc, hcm, k1, k2, by rw [← k1.len, k2], k4, (fun hx => by cases hx), fun x hx j u hj => ?_⟩
          cases hx
          have hc : c ≠ 0 := by
            intro hc
            have : n = 0 := by omega
            subst this
            rw [Nat.zero_mul] at k2
            have := List.eq_nil_of_length_eq_zero k2
            subst this
            simp at hj
          rw [had hc, add_lit', Nat.add_assoc]
          exact k3 j u hj
  · cases he

/-- a new block that a draw sized -/
theorem newRowOK (hs : SR O w0 w m φ h) {e : TypeId} {z : Nat} {l : List AV} {vs : List Value} {rest : Array Value} (hv : VRs m l vs) (h1 : ∀ a ∈ l, a.one = true) {cap n : Nat} (hz : 0 < z) (hn : vs.length = n * z) (hsz : vs.length + rest.size = cap * z) (hcm : cap ≤ maxLen) :
    SR O w0 (w.drew.alloc (.cells (vs.toArray ++ rest) e)) (m.set h.n ⟨w.heap.size, 0, cap * z, z⟩) (φ.set h.n fun k => k = w.heap.size) (h.push (.rw l)) ∧
    VR (m.set h.n ⟨w.heap.size, 0, cap * z, z⟩) (.slice z h.n 0 n none) (.slice (some ⟨w.heap.size, 0, none⟩) n cap) := by
  have hlen := hv.len
  have hle : n * z ≤ cap * z := by omega
  refine ⟨hs.drew.alloc (ty := e) (fz := (0, 0)) (cs := vs.toArray ++ rest) (z := z) (e := cap * z) ?_ (by simp; omega) h1 fz00 (fun h0 => by omega) (by simp; omega) (by omega), ?_⟩
  · rw [Array.toList_append, List.take_append_of_le_length (by simp; omega)]
    rw [← hlen, List.take_length]
    exact hv
  · simp only [VR]
    exact ⟨_, _, _, Mu.set_self _ _ _, rfl, Nat.le_of_mul_le_mul_right hle hz, hcm, fun _ => by simp, ⟨hz, rfl⟩, by simp⟩

theorem app_ok (hs : SR O w0 w m φ h) {t ty e : TypeId} {i : TypeInfo} {zv : Value} (ht : P.underlying t = some (.slice e)) (hi : P.info? e = some i) (hzv : i.zero = some zv) (hzs : zv.cells.size = i.size) (hz : 0 < i.size)
    {x y v : AV} {x' y' : Value} {mm : Nat} {vs : List AV} {h' : Hp O.X} (hx : VR m x x') (hy : VR m y y') (he : elems h i.size y = some (mm, vs)) (hv : appA h i.size i.bytes x mm vs = some (v, h')) :
    ∃ m' φ' w' v', (∀ g, g < h.n → m' g = m g) ∧ h.n ≤ h'.n ∧ SR O w0 w' m' φ' h' ∧ VR m' v v' ∧ (Builtin.append_ #[t, t] ty #[x', y']).run P w = .ok v' w' := by
  obtain ⟨ad, c, news, rfl, hmc, _, hnews, hnl, hvl, hone, hadn, hcell⟩ := elems_ok hs he hy
  unfold appA at hv
  by_cases hm0 : mm = 0
  · subst hm0
    have hn0 : news = [] := List.eq_nil_of_length_eq_zero (by simpa using hnl)
    subst hn0
    simp only [Nat.beq_refl, cond_true] at hv
    have hfc : (Builtin.firstCells i.size 0 (.slice ad 0 c)).run P w = .ok #[] w := by cases ad <;> simp [Builtin.firstCells, loadCells, loadCellsFrom]
    have same : ∀ a len cap, len ≤ cap → (Builtin.append_ #[t, t] ty #[.slice a len cap, .slice ad 0 c]).run P w = .ok (.slice a len cap) w := fun a len cap hlc => by
      cases a <;> simp [Builtin.append_, run_underlying ht, sizeOf, typeInfo, hi, Builtin.lenOf, hfc, hlc, storeCells]
    cases x <;> simp only [] at hv <;> first | (cases hv; done) | skip
    · cases hv
      refine ⟨m, φ, w, x', fun _ _ => rfl, Nat.le_refl _, hs, hx, ?_⟩
      simp only [VR] at hx
      obtain ⟨p, ad2, c2, _, rfl, hlc, _⟩ := hx
      exact same _ _ _ hlc
    · cases hv
      refine ⟨m, φ, w, x', fun _ _ => rfl, Nat.le_refl _, hs, hx, ?_⟩
      simp only [VR] at hx
      subst hx
      exact same _ _ _ (Nat.le_refl _)
  · obtain ⟨a2, rfl⟩ : ∃ a2, ad = some a2 := by
      cases ad with
      | none => exact absurd (hadn rfl).1 hm0
      | some a2 => exact ⟨a2, rfl⟩
    have hcell := hcell a2 rfl
    have h1c := hnews.all_one hone
    rw [nbeq hm0] at hv
    simp only [cond_false] at hv
    -- a new row of what was there and what comes
    have grown : ∀ (olds : List Value) (r : List AV) (n old : Nat), VRs m r olds → (∀ a ∈ r, a.one = true) → olds.length = n * i.size → old < n + mm → n + mm ≤ maxLen → ∀ rest : Array Value, rest = Builtin.zeroCells zv.cells (grownCap w (n + mm) old e - (n + mm)) →
        SR O w0 (w.drew.alloc (.cells (olds.toArray ++ news.toArray ++ rest) e)) (m.set h.n ⟨w.heap.size, 0, grownCap w (n + mm) old e * i.size, i.size⟩) (φ.set h.n fun k => k = w.heap.size) (h.push (.rw (r ++ vs))) ∧
        VR (m.set h.n ⟨w.heap.size, 0, grownCap w (n + mm) old e * i.size, i.size⟩) (.slice i.size h.n 0 (n + mm) none) (.slice (some ⟨w.heap.size, 0, none⟩) (n + mm) (grownCap w (n + mm) old e)) := by
      intro olds r n old h1 h2 h3 h4 h5 rest hrest
      have hge := grownCap_ge w (n + mm) old e
      have hcm := grownCap_le_maxLen w (n + mm) old e h5
      have e1 : olds.toArray ++ news.toArray = (olds ++ news).toArray := by simp
      rw [e1]
      refine newRowOK hs (h1.append hnews) (fun a ha => ?_) hz ?_ ?_ hcm
      · rcases List.mem_append.1 ha with ha | ha
        · exact h2 a ha
        · exact hone a ha
      · rw [List.length_append, h3, hnl, Nat.add_mul]
      · rw [hrest, List.length_append, size_zeroCells, hzs, h3, hnl, ← Nat.add_mul, ← Nat.add_mul]
        congr 1
        omega
    cases x <;> simp only [] at hv <;> first | (cases hv; done) | skip
    · rename_i z' g off len cap
      simp only [VR] at hx
      obtain ⟨p, ad3, c3, hp, rfl, hlc, hcm3, had, ⟨hz0, hpz⟩, hcap⟩ := hx
      cases hchk : (Nat.beq z' i.size && Nat.ble ((len + mm) * i.bytes) 140737488355328 && Nat.ble (len + mm) maxLen) with
      | false => rw [hchk] at hv; cases hv
      | true =>
        rw [hchk] at hv
        simp only [Bool.not_true, cond_false] at hv
        rw [Bool.and_eq_true, Bool.and_eq_true] at hchk
        obtain ⟨⟨k1, k2⟩, k3⟩ := hchk
        have hzz := Nat.eq_of_beq_eq_true k1
        have hby := Nat.le_of_ble_eq_true k2
        have h63 := Nat.le_of_ble_eq_true k3
        have hsmall : len + mm ≤ 9223372036854775807 := by simp only [maxLen] at h63; omega
        subst hzz
        -- in place
        have inplace : ∀ l, h.get g = some (.rw l) → len + mm ≤ c3 → ∀ (hcov : p.s + off + (len + mm) * i.size ≤ p.e),
            (Builtin.append_ #[t, t] ty #[.slice (some ad3) len c3, .slice (some a2) mm c]).run P w = .ok (.slice (some ad3) (len + mm) c3) (w.setCells p.b (p.s + off + len * i.size) news) := by
          intro l hg hroom hcov
          have e3 := had (by omega)
          subst e3
          obtain ⟨cs, tyb, fz, b1, b2, b3, b4, b5, b6, b7⟩ := hs.blk g _ hg p hp
          have hlen' : len * i.size + mm * i.size = (len + mm) * i.size := by rw [Nat.add_mul]
          exact run_append_room_cells w t ty e i ht hi p.b (p.s + off) len c3 a2 mm c news hnl hcell h1c hroom (fun j hj => by
            have : p.s + off + len * i.size + j < cs.size := by omega
            simp [World.cell?, b1, this]) (fun j hj => by
            have := b2.at (i := p.s + off + len * i.size + j) (by omega)
            simp only [World.frozen?, b1]
            exact this)
        -- the old elements
        have olds : ∀ l r, rowOf h g = some l → takeN (len * i.size) off l = some r → ∃ ov : List Value, VRs m r ov ∧ ov.length = len * i.size ∧ (∀ a ∈ r, a.one = true) ∧ ∀ (j : Nat) u, ov[j]? = some u → w.cell? (ad3.add j) = some u := by
          intro l r hr ht
          obtain ⟨hrow, _⟩ := hs.row hp (rowOf_some hr)
          obtain ⟨ov, q1, q2, q3, q4⟩ := row_vals hrow ht
          refine ⟨ov, q1, q2, q4, fun j u hj => ?_⟩
          have hc : c3 ≠ 0 := by
            intro hc
            have : len = 0 := by omega
            subst this
            rw [Nat.zero_mul] at q2
            have := List.eq_nil_of_length_eq_zero q2
            subst this
            simp at hj
          rw [had hc, add_lit', Nat.add_assoc]
          exact q3 j u hj
        cases cap with
        | some k =>
          simp only at hv hcap
          subst hcap
          cases hroom : Nat.ble (len + mm) c3 with
          | true =>
            rw [hroom] at hv
            simp only [cond_true] at hv
            have hroom := Nat.le_of_ble_eq_true hroom
            split at hv
            · rename_i l hg
              obtain ⟨hle, hv⟩ := bif_some hv
              have hle := Nat.le_of_ble_eq_true hle
              cases hv
              obtain ⟨cs, tyb, fz, b1, b2, b3, b4, b5, b6, b7⟩ := hs.blk g _ hg p hp
              have hlen' : len * i.size + mm * i.size = (len + mm) * i.size := by rw [Nat.add_mul]
              refine ⟨m, _, _, .slice (some ad3) (len + mm) c3, fun _ _ => rfl, Nat.le_refl _, hs.write hg hp (off := off + len * i.size) (by omega) hnews hone, ?_, ?_⟩
              · simp only [VR]
                exact ⟨p, ad3, c3, hp, rfl, hroom, hcm3, had, ⟨hz0, hpz⟩, rfl⟩
              · rw [inplace l hg hroom (by omega), Nat.add_assoc p.s]
            · cases hv
          | false =>
            rw [hroom] at hv
            simp only [cond_false] at hv
            have hroom : c3 < len + mm := by
              rcases Nat.lt_or_ge c3 (len + mm) with h' | h'
              · exact h'
              · rw [Nat.ble_eq_true_of_le h'] at hroom; cases hroom
            cases hr : rowOf h g with
            | none => rw [hr] at hv; cases hv
            | some l =>
              rw [hr] at hv
              simp only at hv
              cases ht2 : takeN (len * i.size) off l with
              | none => rw [ht2] at hv; cases hv
              | some r =>
                rw [ht2] at hv
                cases hv
                obtain ⟨ov, q1, q2, q3, q4⟩ := olds l r hr ht2
                have hrun := run_append_grow (P := P) w t ty e i zv ht hi hzv ad3 len c3 ov q2 q4 a2 mm c news hnl hcell hroom (by omega) (growslice_fits hroom hby)
                obtain ⟨g1, g2⟩ := grown ov r len c3 q1 q3 q2 hroom h63 _ rfl
                exact ⟨_, _, _, _, grow_set _ _ _, Nat.le_succ _, g1, g2, hrun⟩
        | none =>
          simp only at hv hcap
          split at hv
          · rename_i l hg
            obtain ⟨cs, tyb, fz, b1, b2, b3, b4, b5, b6, b7⟩ := hs.blk g _ hg p hp
            have hlen' : len * i.size + mm * i.size = (len + mm) * i.size := by rw [Nat.add_mul]
            cases hfit : Nat.ble (off + (len + mm) * i.size) l.length with
            | true =>
              rw [hfit] at hv
              cases hv
              have hle := Nat.le_of_ble_eq_true hfit
              have hroom : len + mm ≤ c3 := by
                rw [hpz] at hcap
                exact Nat.le_of_mul_le_mul_right (c := i.size) (by omega) hz
              refine ⟨m, _, _, .slice (some ad3) (len + mm) c3, fun _ _ => rfl, Nat.le_refl _, hs.write hg hp (off := off + len * i.size) (by omega) hnews hone, ?_, ?_⟩
              · simp only [VR]
                exact ⟨p, ad3, c3, hp, rfl, hroom, hcm3, had, ⟨hz0, hpz⟩, hcap⟩
              · rw [inplace l hg hroom (by omega), Nat.add_assoc p.s]
            | false =>
              rw [hfit] at hv
              simp only [cond_false] at hv
              cases ht2 : takeN (len * i.size) off l with
              | none => rw [ht2] at hv; cases hv
              | some r =>
                rw [ht2] at hv
                cases hv
                obtain ⟨ov, q1, q2, q3, q4⟩ := olds l r (by unfold rowOf; rw [hg]) ht2
                obtain ⟨hl2, hr2⟩ := takeN_some ht2
                by_cases hroom : len + mm ≤ c3
                · -- the array has room
                  have hcov : p.s + off + (len + mm) * i.size ≤ p.e := by
                    rw [← hcap, hpz]
                    have := Nat.mul_le_mul_right i.size hroom
                    omega
                  have hrun := inplace l hg hroom hcov
                  have hrlen : r.length = len * i.size := by rw [← q1.len, q2]
                  obtain ⟨cs', c1', c2', c3'⟩ := setCells_block news (p.s + off + len * i.size) w cs b1 (by omega)
                  refine ⟨_, _, _, .slice (some ad3) (len + mm) c3, grow_set m _ ⟨p.b, p.s + off, p.e, i.size⟩, Nat.le_succ _, hs.move (c' := .rw (r ++ vs)) (q := ⟨p.b, p.s + off, p.e, i.size⟩) (S' := fun k => k = p.b) hg rfl hp (upd_setCells ((b6 p.b).2 rfl) news (p.s + off + len * i.size) (Upd.refl _ _)) ?_ rfl (fun k hk => .inl ((b6 k).2 hk)), ?_, hrun⟩
                  · refine ⟨cs', tyb, fz, c1', c2'.symm ▸ b2, by show p.e ≤ _; omega, by rw [List.length_append, hrlen, hvl]; show p.s + off + _ ≤ p.e; omega, fun j v hj => ?_, fun k => Iff.rfl, fun h0 => absurd h0 (by show ¬ i.size = 0; omega)⟩
                    show ∃ v', cs'[p.s + off + j]? = some v' ∧ _
                    rw [c3']
                    rw [List.getElem?_append, hrlen] at hj
                    by_cases hj2 : j < len * i.size
                    · rw [if_pos hj2] at hj
                      rw [if_neg (by omega)]
                      rw [hr2, List.getElem?_take, if_pos hj2, List.getElem?_drop] at hj
                      obtain ⟨v', d1, d2, d3⟩ := b5 _ _ hj
                      exact ⟨v', by rw [Nat.add_assoc]; exact d1, d2.ext (Mu.ext_set hs.none_n _), d3⟩
                    · rw [if_neg hj2] at hj
                      have hlt : j - len * i.size < vs.length := (List.getElem?_eq_some_iff.1 hj).1
                      rw [if_pos (by omega), show p.s + off + j - (p.s + off + len * i.size) = j - len * i.size by omega]
                      obtain ⟨v', d1, d2⟩ := hnews.get hj
                      exact ⟨v', d1, d2.ext (Mu.ext_set hs.none_n _), hone _ (List.mem_of_getElem? hj)⟩
                  · simp only [VR]
                    exact ⟨_, ad3, c3, Mu.set_self _ _ _, rfl, hroom, hcm3, fun h0 => by rw [had h0]; rfl, ⟨hz, rfl⟩, by show p.s + off + 0 + c3 * i.size = p.e; rw [← hcap, hpz]; omega⟩
                · have hroom : c3 < len + mm := by omega
                  have hrun := run_append_grow (P := P) w t ty e i zv ht hi hzv ad3 len c3 ov q2 q4 a2 mm c news hnl hcell hroom (by omega) (growslice_fits hroom hby)
                  have hge := grownCap_ge w (len + mm) c3 e
                  have hcm := grownCap_le_maxLen w (len + mm) c3 e h63
                  have e1 : ov.toArray ++ news.toArray = (ov ++ news).toArray := by simp
                  have hvl2 : (ov ++ news).length = (len + mm) * i.size := by rw [List.length_append, q2, hnl, Nat.add_mul]
                  have hmm := q1.append hnews
                  have hrr := hmm.len
                  have hszr : (Builtin.zeroCells zv.cells (grownCap w (len + mm) c3 e - (len + mm))).size = (grownCap w (len + mm) c3 e - (len + mm)) * i.size := by rw [size_zeroCells, hzs]
                  have hsum : (len + mm) * i.size + (grownCap w (len + mm) c3 e - (len + mm)) * i.size = grownCap w (len + mm) c3 e * i.size := by rw [← Nat.add_mul]; congr 1; omega
                  refine ⟨_, _, _, _, grow_set m _ ⟨w.heap.size, 0, grownCap w (len + mm) c3 e * i.size, i.size⟩, Nat.le_succ _, hs.move (c' := .rw (r ++ vs)) (q := ⟨w.heap.size, 0, grownCap w (len + mm) c3 e * i.size, i.size⟩) (S' := fun k => k = w.heap.size) hg rfl hp (((Upd.refl _ w).drew).alloc _) ?_ rfl (fun k hk => .inr (by omega)), ?_, hrun⟩
                  · rw [e1]
                    refine ⟨_, e, (0, 0), heap_alloc_new w.drew _, fz00, by simp only [Array.size_append, List.size_toArray, hvl2, hszr]; show grownCap w (len + mm) c3 e * i.size ≤ _; omega, by rw [← hrr, hvl2]; show 0 + _ ≤ grownCap w (len + mm) c3 e * i.size; omega, fun j v hj => ?_, fun k => Iff.rfl, fun _ => rfl⟩
                    obtain ⟨v', d1, d2⟩ := hmm.get hj
                    refine ⟨v', ?_, d2.ext (Mu.ext_set hs.none_n _), ?_⟩
                    · show ((ov ++ news).toArray ++ _)[0 + j]? = _
                      rw [Nat.zero_add, Array.getElem?_append_left (by have := (List.getElem?_eq_some_iff.1 d1).1; simpa using this)]
                      simpa using d1
                    · rcases List.mem_append.1 (List.mem_of_getElem? hj) with ha | ha
                      · exact q3 _ ha
                      · exact hone _ ha
                  · simp only [VR]
                    exact ⟨_, _, _, Mu.set_self _ _ _, rfl, hge, hcm, fun _ => by simp, ⟨hz, rfl⟩, by show 0 + 0 + grownCap w (len + mm) c3 e * i.size = grownCap w (len + mm) c3 e * i.size; omega⟩
          · cases hv
    · simp only [VR] at hx
      subst hx
      obtain ⟨hb, hv⟩ := bif_some hv
      cases hv
      rw [Bool.and_eq_true] at hb
      have hby := Nat.le_of_ble_eq_true hb.1
      have h63 := Nat.le_of_ble_eq_true hb.2
      have hsmall : mm ≤ 9223372036854775807 := by simp only [maxLen] at h63; omega
      have hrun := run_append_nil (P := P) w t ty e i zv ht hi hzv a2 mm c news hnl hcell (by omega) (by omega) (by omega)
      have hge := grownCap_ge w mm 0 e
      obtain ⟨g1, g2⟩ := newRowOK (e := e) (rest := Builtin.zeroCells zv.cells (grownCap w mm 0 e - mm)) hs hnews hone hz hnl (by rw [size_zeroCells, hzs, hnl, ← Nat.add_mul]; congr 1; omega) (grownCap_le_maxLen w mm 0 e h63)
      exact ⟨_, _, _, _, grow_set _ _ _, Nat.le_succ _, g1, g2, hrun⟩
end
end Am
end Go.Proofs.Ytmfobcejnkakpaa
