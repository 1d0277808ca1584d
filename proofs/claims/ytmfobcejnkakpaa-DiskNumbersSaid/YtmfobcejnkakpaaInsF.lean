/- slices.Insert of one element into a slice that is owned: []*disk.file. -/
import Derived.Test.YtmfobcejnkakpaaRows
import Derived.Test.YtmfobcejnkakpaaLaws
import Derived.Lib.Overlaps
import Derived.Deep.RegionLaw
namespace Go.Proofs.Ytmfobcejnkakpaa.InsF
set_option linter.unusedVariables false
set_option linter.unusedSimpArgs false
open Go.RowKit
set_option maxRecDepth 100000

theorem infoE : (Try.prog.info? 106).map (fun i => (i.zero, i.size, i.bytes)) = some (some (.pointer none), 1, 8) := by kernel_rfl
theorem sizeE : (Try.prog.info? 106).map (·.size) = some 1 := by kernel_rfl

set_option maxHeartbeats 400000 in
/-- at the end -/
theorem insert_end (v : Value) (n : Nat) (xs : List Value) (ob : Option Nat) (b : Nat) (x : Value) (w : World) (hown : Own w 106 1 v n xs ob) (hb : Blk w b #[x] 106) (hx1 : x.oneCell' = true)
    (hn : n ≤ 1099511627776) :
    Calls Try.prog 108 #[v, .int .i64 n, .slice (some ⟨b, 0, none⟩) 1 1] w (RetOwn w 106 1 (n + 1) (xs.take n ++ x :: xs.drop n) ob) := by
  have hrd : Rd w 1 (.slice (some ⟨b, 0, none⟩) 1 1) 1 [x] := (show Own w 106 1 (.slice (some ⟨b, 0, none⟩) 1 1) 1 [x] (some b) from ⟨by simp, .inr ⟨b, 1, _, rfl, rfl, hb, Nat.le_refl _, by unfold maxLen; omega, by simp, by simp⟩⟩).rd
  have hxs : xs.take n ++ x :: xs.drop n = xs ++ [x] := by
    have := hown.len
    rw [List.take_of_length_le (by omega), List.drop_eq_nil_of_le (by omega)]
  rw [hxs]
  have h1 : ∀ u ∈ [x], u.oneCell' = true := by simpa using hx1
  have HO := Lib.hid hown
  have HR := Lib.hid hrd
  have HX := Lib.hid h1
  rcases hown.2 with ⟨rfl, rfl, rfl⟩ | ⟨g, cap, cur, rfl, rfl, _, hnc, hcm, _⟩
  all_goals
    clear hown hrd hb hx1 hxs h1
    (try unfold maxLen at hcm)
    go_enter Try.func108, Try.ntmps108
    go_wp2_with (at_builtin; refine wpList_append rfl _ _ _ rfl 106 1 8 _ Try.underlying101 infoE rfl (by decide) _ _ _ HO.out 1 [x] HR.out HX.out (by unfold maxLen; omega) (by omega) ?_; intro v' w' ob' h2 h3 h4)
    all_goals
      go_ret
      exact ⟨_, _, rfl, ‹_›, ‹_›, ‹_›⟩

theorem infoI : Try.prog.underlying 3 = some (.int .i64) := Try.underlying3

set_option maxHeartbeats 400000 in
/-- in the middle, where it must grow -/
theorem insert_grow (g i m : Nat) (cur : Array Value) (xs : List Value) (b : Nat) (x : Value) (w : World) (hg : Blk w g cur 106) (hlen : xs.length = i + m) (hcur : cur.toList.take (i + m) = xs) (hb : Blk w b #[x] 106) (hx1 : x.oneCell' = true)
    (hall : ∀ u ∈ xs, u.oneCell' = true) (hm : 0 < m) (hn : i + m ≤ 1099511627776) :
    Calls Try.prog 108 #[.slice (some ⟨g, 0, none⟩) (i + m) (i + m), .int .i64 i, .slice (some ⟨b, 0, none⟩) 1 1] w (RetOwn w 106 1 (i + m + 1) (xs.take i ++ x :: xs.drop i) (some g)) := by
  have hown : Own w 106 1 (.slice (some ⟨g, 0, none⟩) (i + m) (i + m)) (i + m) xs (some g) := ⟨by omega, .inr ⟨g, i + m, cur, rfl, rfl, hg, Nat.le_refl _, by unfold maxLen; omega, by
    have := congrArg List.length hcur; simp at this; omega, by simpa using hcur⟩⟩
  have hrd : Rd w 1 (.slice (some ⟨g, 0, none⟩) i (i + m)) i (xs.take i) := (show Own w 106 1 (.slice (some ⟨g, 0, none⟩) i (i + m)) i (xs.take i) (some g) from ⟨by simp; omega, .inr ⟨g, i + m, cur, rfl, rfl, hg, by omega, by unfold maxLen; omega, by
    have := congrArg List.length hcur; simp at this; omega, by rw [← hcur, List.take_take]; congr 1; omega⟩⟩).rd
  have HR := Lib.hid hrd
  have HB := Lib.hid hb
  have HG := Lib.hid hg
  have HA := Lib.hid hall
  have HX := Lib.hid hx1
  have HC := Lib.hid hcur
  have HL := Lib.hid hlen
  clear hrd hb hg hall hx1 hcur hown hlen
  go_enter Try.func108, Try.ntmps108
  go_wp2_with (first
    | (at_builtin; refine wpList_append_zeros rfl _ _ _ _ rfl 106 1 8 _ .i64 .i64 Try.underlying101 Try.underlying3 infoE rfl (by decide) _ _ _ rfl _ HR.out (m + 1) (intv (by omega)) (by omega) (by omega) (by unfold maxLen; omega) (by omega) ?_
       intro w1 cap1 hb1 hle1 hcm1 hu1; obtain ⟨Z, hb1', hZ⟩ := zeros_shape hb1; have HB1 := Lib.hid hb1'; have HU1 := Lib.hid hu1; have HZ := Lib.hid (show cap1 ≤ i + Z.length by rw [hZ, show (Value.cells (.pointer none)).size = 1 from rfl]; omega); clear hb1 hu1 hb1' hZ; unfold maxLen at hcm1)
    | ((with_reducible refine at_dst 45 ?_); (refine wpList_copy rfl _ _ _ _ rfl 106 1 Try.underlying101 sizeE (by decide) _ _ _ rfl _ _ _ rfl w.heap.size i _ 106 HB1.out [x] ?c1 ?c2 ?c3 ?c4 ?_)
       rotate_right; intro w2 hb2 hu2; have HB2 := Lib.hid (blk_splice hb2 (by have := HL.out; simp; omega)); have HU2 := Lib.hid hu2; clear hb2 hu2))
  case c1 => simp
  case c2 =>
    intro j v hv
    obtain ⟨rfl, rfl⟩ : j = 0 ∧ v = x := by
      rcases j with _ | j
      · exact ⟨rfl, by simpa using hv.symm⟩
      · simp at hv
    simpa [Addr.add_lit] using ((HB.out.upd HU1.out (fun h => h)).cell 0)
  case c3 => have := HL.out; have := HZ.out; simp; omega
  case c4 => intro v hv; simp at hv; subst hv; exact HX.out
  have d1 : (xs.drop i).length = Nat.min m (m) * 1 := by have := HL.out; simp; omega
  have d2 : ∀ j v, (xs.drop i)[j]? = some v → w2.cell? ⟨g, i + j, none⟩ = some v := by
    intro j v hv
    have hlt := HG.out.lt
    have hne : g ≠ w.heap.size := by omega
    rw [((HG.out.upd HU1.out (fun h => h)).upd HU2.out hne).cell, ← Array.getElem?_toList]
    have hc := HC.out
    rw [← hc] at hv
    have hl := (List.getElem?_eq_some_iff.1 hv).1
    simp at hl
    rw [List.getElem?_drop, List.getElem?_take] at hv
    split at hv
    · exact hv
    · cases hv
  have D1 := Lib.hid d1
  have D2 := Lib.hid d2
  clear d1 d2
  have e1 : IntKind.i64.wrap ((i : Int) + 1) = (i : Int) + 1 := IntWalk.i64_in _ (by omega)
  have e2 : 0 ≤ (i : Int) + 1 := by omega
  have e3 : ((i : Int) + 1).toNat = i + 1 := by omega
  have e4 : (1 : Int) ≤ (m : Int) + 1 := by omega
  have e5 : ¬ (cap1 = i + 1) := by omega
  have e6 : ¬ (m = 0) := by omega
  have e7 : (i : Int) ≤ (i : Int) + (m : Int) := by omega
  have d3 : i + 1 + (xs.drop i).length ≤ (xs.take i ++ ([x] ++ Z.drop 1)).length := by have := HL.out; have := HZ.out; simp; omega
  have d4 : ∀ v ∈ xs.drop i, v.oneCell' = true := fun v hv => HA.out v (List.mem_of_mem_drop hv)
  have D3 := Lib.hid d3
  have D4 := Lib.hid d4
  clear d3 d4
  go_region_law (refine step_copy rfl (.tmp 50) (.tmp 53) 101 101 rfl 106 1 Try.underlying101 sizeE (by decide) (some ⟨w.heap.size, i + 1, none⟩) (i + (m + 1) - (i + 1)) (cap1 - (i + 1)) (by simp [Act.eval, Act.put]) (some ⟨g, i, none⟩) m m (by simp [Act.eval, Act.put]) w.heap.size (i + 1) _ 106 HB2.out.drew (xs.drop i) (by rw [D1.out]; congr 1; simp [Nat.min_def]; omega) (fun _ => ⟨rfl, _, rfl, fun j v hv => by rw [Addr.add_lit]; exact D2.out j v hv⟩) (by simpa using D3.out) D4.out ?_; intro w3 hb3 hu3)
  have hfin : Own w3 106 1 (.slice (some ⟨w.heap.size, 0, none⟩) (i + (m + 1)) cap1) (i + m + 1) (xs.take i ++ x :: xs.drop i) (some w.heap.size) := by
    have hl := HL.out
    have hz := HZ.out
    have e8 : xs.take i ++ ([x] ++ List.drop [x].length Z) = (xs.take i ++ [x]) ++ Z.drop 1 := by simp
    rw [e8] at hb3
    have hb4 := blk_splice hb3 (by simp; omega)
    refine ⟨by simp; omega, .inr ⟨w.heap.size, cap1, _, by simp only [Nat.add_assoc], rfl, hb4, by omega, by unfold maxLen; omega, ?_, ?_⟩⟩
    · simp; omega
    · simp only [List.append_assoc, List.singleton_append]
      have : ((xs.take i ++ x :: (xs.drop i ++ (Z.drop 1).drop (xs.drop i).length)) : List Value) = (xs.take i ++ x :: xs.drop i) ++ (Z.drop 1).drop (xs.drop i).length := by simp
      rw [this]
      apply List.take_left'
      simp; omega
  have hupd : Upd (fun k => some g = some k) w w3 :=
    ((HU1.out.trans (S := NoBlock) HU2.out (fun k hk => .inr (by rw [hk]; exact Nat.le_refl _))).drew.trans hu3 (fun k hk => .inr (by rw [hk]; exact Nat.le_refl _))).mono (fun k hk => hk.elim)
  have HF := Lib.hid hfin
  have HU := Lib.hid hupd
  clear hfin hupd hb3 hu3 e1 e2 e3 e4 e5 e6 e7
  go_wp2
  go_ret
  exact ⟨_, _, rfl, HF.out, HU.out, .inr fun k hk => by cases hk; exact Nat.le_refl _⟩

set_option maxHeartbeats 400000 in
/-- in the middle, where there is room -/
theorem insert_room (g i m cap : Nat) (cur : Array Value) (xs : List Value) (b : Nat) (x : Value) (w : World) (hg : Blk w g cur 106) (hlen : xs.length = i + m) (hcur : cur.toList.take (i + m) = xs) (hcap : i + m < cap) (hcm : cap ≤ maxLen) (hcs : cap ≤ cur.size)
    (hb : Blk w b #[x] 106) (hne : g ≠ b) (hx1 : x.oneCell' = true) (hall : ∀ u ∈ xs, u.oneCell' = true) (hm : 0 < m) (hn : i + m ≤ 1099511627776) :
    Calls Try.prog 108 #[.slice (some ⟨g, 0, none⟩) (i + m) cap, .int .i64 i, .slice (some ⟨b, 0, none⟩) 1 1] w (RetOwn w 106 1 (i + m + 1) (xs.take i ++ x :: xs.drop i) (some g)) := by
  obtain ⟨Z, rfl⟩ : ∃ Z : List Value, cur = (xs.take i ++ (xs.drop i ++ Z)).toArray := ⟨cur.toList.drop (i + m), by
    apply Array.ext'
    rw [← List.append_assoc, List.take_append_drop]
    show _ = xs ++ _
    rw [← hcur, List.take_append_drop]⟩
  have hZ : cap ≤ i + m + Z.length := by simp at hcs; omega
  unfold maxLen at hcm
  have HB := Lib.hid hb
  have HG := Lib.hid hg
  have HA := Lib.hid hall
  have HX := Lib.hid hx1
  have HL := Lib.hid hlen
  have HZ := Lib.hid hZ
  have HN := Lib.hid hne
  clear hb hg hall hx1 hcur hlen hcs hZ hne
  go_enter Try.func108, Try.ntmps108
  go_wp2
  rw [run_callFunc_extern Try.func126 (by kernel_rfl) (by kernel_rfl) (by kernel_rfl) (e := Extern.SlicesOverlaps.overlaps #[101, 101] #[4]) (by kernel_rfl),
    Lib.run_overlaps_apart w 101 4 106 Try.underlying101 1 (fun _ => by kernel_rfl) _ _ _ _ _ _ (fun h => HN.out h.symm) 106 106 1 _ (HB.out.shape) (HG.out.shape) (by have := HL.out; simp; omega) (HB.out.frozen _) (HB.out.frozen _)]
  simp only [Result.andThen]
  rw [Oper.upon_value]
  go_wp2
  have d1 : (xs.drop i).length = Nat.min m m * 1 := by have := HL.out; simp; omega
  have D1 := Lib.hid d1
  clear d1
  have e1 : IntKind.i64.wrap ((i : Int) + 1) = (i : Int) + 1 := IntWalk.i64_in _ (by omega)
  have e2 : 0 ≤ (i : Int) + 1 := by omega
  have e3 : ((i : Int) + 1).toNat = i + 1 := by omega
  have e4 : (1 : Int) ≤ (m : Int) + 1 := by omega
  have e5 : ¬ (cap = i + 1) := by omega
  have e6 : ¬ (cap = i) := by omega
  have e7 : (i : Int) ≤ (i : Int) + (m : Int) := by omega
  have e8 : (i : Int) ≤ (i : Int) + (m : Int) + 1 := by omega
  obtain ⟨y, t, hyt⟩ : ∃ y t, xs.drop i = y :: t := by
    cases h : xs.drop i with
    | nil => have h1 := HL.out; have h2 := congrArg List.length h; simp at h2; omega
    | cons y t => exact ⟨y, t, rfl⟩
  have hG2 : Blk w g ((xs.take i ++ [y]) ++ (t ++ Z)).toArray 106 := by
    have := HG.out
    rw [hyt] at this
    simpa using this
  have hG3 : ∀ j v, (xs.drop i)[j]? = some v → w.cell? ⟨g, i + j, none⟩ = some v := by
    intro j v hv
    have hl := HL.out
    have hj := (List.getElem?_eq_some_iff.1 hv).1
    have hi : (xs.take i).length = i := by simp; omega
    rw [HG.out.cell, List.getElem?_toArray, List.getElem?_append_right (by omega), List.getElem?_append_left (by rw [hi]; omega), hi, Nat.add_sub_cancel_left]
    exact hv
  have hl3 : t.length + 1 = m := by have h1 := HL.out; have h2 := congrArg List.length hyt; simp at h2; omega
  have HG2 := Lib.hid hG2
  have HG3 := Lib.hid hG3
  have HY := Lib.hid hyt
  have HL3 := Lib.hid hl3
  have d4 : ∀ v ∈ xs.drop i, v.oneCell' = true := fun v hv => HA.out v (List.mem_of_mem_drop hv)
  have D4 := Lib.hid d4
  clear d4 hG2 hG3 hyt hl3
  go_region_law (refine step_copy rfl (.tmp 73) (.tmp 76) 101 101 rfl 106 1 Try.underlying101 sizeE (by decide) (some ⟨g, i + 1, none⟩) m (cap - (i + 1)) (by simp [Act.eval, Act.put]) (some ⟨g, i, none⟩) (m + 1) (cap - i) (by simp [Act.eval, Act.put]; omega) g (i + 1) _ 106 HG2.out.drew (xs.drop i) (by rw [D1.out]; congr 1; simp [Nat.min_def]) (fun _ => ⟨rfl, _, rfl, fun j v hv => by rw [Addr.add_lit]; exact HG3.out j v hv⟩) (by have h1 := D1.out; have h2 := HL.out; have h3 := HL3.out; have h4 := HZ.out; simp at h1 ⊢; omega) D4.out ?_; intro w3 hb3 hu3)
  have hb4 : Blk w3 g (xs.take i ++ (y :: (xs.drop i ++ (t ++ Z).drop m))).toArray 106 := by
    have := blk_splice hb3 (by have := HL.out; simp; omega)
    have h1 := D1.out
    simp only [List.append_assoc, List.singleton_append] at this
    rw [show (xs.drop i).length = m by simpa using h1] at this
    exact this
  have HB4 := Lib.hid hb4
  have HU3 := Lib.hid hu3
  clear hb3 hu3 hb4
  go_wp2_with ((with_reducible refine at_dst 82 ?_); (refine wpList_copy rfl _ _ _ _ rfl 106 1 Try.underlying101 sizeE (by decide) _ _ _ rfl _ _ _ rfl g i _ 106 HB4.out [x] ?c1 ?c2 ?c3 ?c4 ?_); rotate_right; intro w4 hb5 hu4; have HB5 := Lib.hid (blk_splice hb5 (by have := HL.out; simp; omega)); have HU4 := Lib.hid hu4; clear hb5 hu4)
  case c1 =>
    have : Nat.min 1 (i + m + 1 - i) = 1 := Nat.min_eq_left (by omega)
    rw [this]; rfl
  case c2 =>
    intro _ j v hv
    obtain ⟨rfl, rfl⟩ : j = 0 ∧ v = x := by
      rcases j with _ | j
      · exact ⟨rfl, by simpa using hv.symm⟩
      · simp at hv
    simpa using ((HB.out.drew.upd HU3.out (fun h => HN.out h.symm)).cell 0)
  case c3 => have := HL.out; simp; omega
  case c4 => intro v hv; simp at hv; subst hv; exact HX.out
  have hfin : Own w4 106 1 (.slice (some ⟨g, 0, none⟩) (i + m + 1) cap) (i + m + 1) (xs.take i ++ x :: xs.drop i) (some g) := by
    have hl := HL.out
    have hz := HZ.out
    have hb6 := HB5.out
    have h3 := HL3.out
    refine ⟨by simp; omega, .inr ⟨g, cap, _, rfl, rfl, hb6, by omega, by unfold maxLen; omega, by simp; omega, ?_⟩⟩
    have : (xs.take i ++ ([x] ++ List.drop [x].length (y :: (xs.drop i ++ (t ++ Z).drop m))) : List Value) = (xs.take i ++ x :: xs.drop i) ++ (t ++ Z).drop m := by simp
    rw [this]
    apply List.take_left'
    simp; omega
  have hupd : Upd (fun k => some g = some k) w w4 :=
    ((((Upd.refl (fun k => k = g) w).drew).trans HU3.out (fun k hk => .inl hk)).trans HU4.out (fun k hk => .inl hk)).mono (fun k hk => .inl (by rw [hk]))
  have HF := Lib.hid hfin
  have HU := Lib.hid hupd
  clear hfin hupd
  go_ret
  exact ⟨_, _, rfl, HF.out, HU.out, .inl rfl⟩

/-- slices.Insert of one element, wherever -/
theorem insert_any (v : Value) (n i : Nat) (xs : List Value) (ob : Option Nat) (b : Nat) (x : Value) (w : World) (hown : Own w 106 1 v n xs ob) (hi : i ≤ n) (hb : Blk w b #[x] 106) (hne : ob ≠ some b) (hx1 : x.oneCell' = true)
    (hall : ∀ u ∈ xs, u.oneCell' = true) (hn : n ≤ 1099511627776) :
    Calls Try.prog 108 #[v, .int .i64 i, .slice (some ⟨b, 0, none⟩) 1 1] w (RetOwn w 106 1 (n + 1) (xs.take i ++ x :: xs.drop i) ob) := by
  by_cases hin : i = n
  · subst hin; exact insert_end v i xs ob b x w hown hb hx1 hn
  · obtain ⟨m, rfl⟩ : ∃ m, n = i + m := ⟨n - i, by omega⟩
    obtain ⟨g, cap, cur, rfl, rfl, hg, h1, h2, h3, h4⟩ := hown.some_of (by omega)
    have hl := hown.len
    rw [Nat.mul_one] at hl h3 h4
    by_cases hc : i + m = cap
    · subst hc; exact insert_grow g i m cur xs b x w hg hl h4 hb hx1 hall (by omega) hn
    · exact insert_room g i m cap cur xs b x w hg hl h4 (by omega) h2 h3 hb (fun e => hne (by rw [e])) hx1 hall (by omega) hn
end Go.Proofs.Ytmfobcejnkakpaa.InsF
