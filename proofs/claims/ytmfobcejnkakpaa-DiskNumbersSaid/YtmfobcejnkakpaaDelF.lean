/- slices.Delete of one element of a slice that is owned: []*disk.file. -/
import Derived.Test.YtmfobcejnkakpaaRows
import Derived.Test.YtmfobcejnkakpaaLaws
import Derived.Deep.RegionLaw
namespace Go.Proofs.Ytmfobcejnkakpaa.DelF
set_option linter.unusedVariables false
set_option linter.unusedSimpArgs false
open Go.RowKit
set_option maxRecDepth 100000

theorem infoE : (Try.prog.info? 106).map (fun i => (i.zero, i.size, i.bytes)) = some (some (.pointer none), 1, 8) := by kernel_rfl
theorem sizeE : (Try.prog.info? 106).map (·.size) = some 1 := by kernel_rfl

set_option maxHeartbeats 400000 in
theorem delete_any (g i m cap : Nat) (cur : Array Value) (xs ys : List Value) (y : Value) (w : World) (hg : Blk w g cur 106) (hxl : xs.length = i) (hyl : ys.length = m) (hcur : cur.toList.take (i + 1 + m) = xs ++ y :: ys) (hcap : i + 1 + m ≤ cap) (hcm : cap ≤ maxLen) (hcs : cap ≤ cur.size)
    (hall : ∀ u ∈ ys, u.oneCell' = true) (hn : i + 1 + m ≤ 1099511627776) :
    Calls Try.prog 109 #[.slice (some ⟨g, 0, none⟩) (i + 1 + m) cap, .int .i64 i, .int .i64 (i + 1)] w (RetOwn w 106 1 (i + m) (xs ++ ys) (some g)) := by
  obtain ⟨Z, rfl⟩ : ∃ Z : List Value, cur = (xs ++ (y :: ys ++ Z)).toArray := ⟨cur.toList.drop (i + 1 + m), by
    apply Array.ext'
    show _ = xs ++ (y :: ys ++ _)
    rw [← List.append_assoc, ← hcur, List.take_append_drop]⟩
  have hZ : cap ≤ i + 1 + m + Z.length := by simp at hcs; omega
  unfold maxLen at hcm
  have HG := Lib.hid hg
  have HA := Lib.hid hall
  have HX := Lib.hid hxl
  have HY := Lib.hid hyl
  have HZ := Lib.hid hZ
  clear hg hall hcur hxl hyl hcs hZ
  have e1 : (i : Int) + 1 ≤ (i : Int) + 1 + m := by omega
  have e2 : 0 ≤ (i : Int) + 1 := by omega
  have e3 : ((i : Int) + 1).toNat = i + 1 := by omega
  have e4 : (i : Int) ≤ cap := by omega
  have e5 : (i : Int) ≤ (i : Int) + 1 := by omega
  have d2 : 0 < m → ∀ j v, ys[j]? = some v → w.cell? ⟨g, i + 1 + j, none⟩ = some v := by
    intro _ j v hv
    have hl := HX.out
    have hj := (List.getElem?_eq_some_iff.1 hv).1
    rw [HG.out.cell, List.getElem?_toArray, List.getElem?_append_right (by omega), hl, show i + 1 + j - i = j + 1 by omega]
    simp only [List.cons_append, List.getElem?_cons_succ]
    rw [List.getElem?_append_left hj]
    exact hv
  have D2 := Lib.hid d2
  clear d2
  by_cases h6 : cap = i + 1
  all_goals
    go_enter Try.func109, Try.ntmps109
    go_wp2
  · have hm0 : m = 0 := by omega
    subst h6
    subst hm0
    go_region_law (refine step_append_in rfl (.tmp 22) (.tmp 25) 101 rfl 106 1 Try.underlying101 sizeE g i (i + 1) (by simp [Act.eval, Act.put]) _ 106 HG.out.drew (some ⟨g, 0, none⟩) 0 0 (by simp [Act.eval, Act.put]) ys (by rw [HY.out]) (fun h => absurd h (by omega)) HA.out (by omega) (by have := HX.out; have := HY.out; simp; omega) ?_; intro w3 hb3 hu3)
    have hb4 : Blk w3 g (xs ++ (ys ++ (y :: ys ++ Z).drop 0)).toArray 106 := by
      have h := hb3
      rw [Nat.mul_one] at h
      have := blk_splice h HX.out
      rwa [HY.out] at this
    obtain ⟨z, Z', hz⟩ : ∃ z Z', (y :: ys ++ Z).drop 0 = z :: Z' := by
      cases h : (y :: ys ++ Z).drop 0 with
      | nil => have h1 := congrArg List.length h; have h2 := HY.out; first | (simp at h1; done) | (simp at h1; omega)
      | cons z Z' => exact ⟨z, Z', rfl⟩
    have hzl : 1 + Z'.length = 1 + Z.length := by have h1 := congrArg List.length hz; have h2 := HY.out; (try simp at h1); first | omega | (simp at h1 ⊢; omega) | simp_all
    rw [hz] at hb4
    have HB4 := Lib.hid hb4
    have HU3 := Lib.hid hu3
    have HZL := Lib.hid hzl
    clear hb3 hu3 hb4 hz hzl
    go_wp2_with ((with_reducible refine at_clear ?_); refine wpList_clear rfl _ _ rfl 106 1 8 _ Try.underlying101 infoE rfl (by simp [Value.cells, Value.oneCell']) g (i + 0) 1 ((i + 1) - (i + 0)) (by simp [Act.eval, Act.put]; try omega) _ 106 HB4.out (by have := HX.out; have := HY.out; simp; omega) (by omega) ?_; intro w4 hb5 hu4; have HB5 := Lib.hid hb5; have HU4 := Lib.hid hu4; clear hb5 hu4)
    have hfin : Own w4 106 1 (.slice (some ⟨g, 0, none⟩) (i + 0) (i + 1)) (i + 0) (xs ++ ys) (some g) := by
      have hxl := HX.out
      have hyl := HY.out
      have hz := HZ.out
      have hz2 := HZL.out
      refine ⟨by simp; omega, .inr ⟨g, (i + 1), _, rfl, rfl, HB5.out, by omega, by unfold maxLen; omega, ?_, ?_⟩⟩
      · simp [size_zeroCells, Value.cells]; omega
      · rw [Nat.mul_one]
        show List.take _ (List.take (i + 0) (xs ++ (ys ++ z :: Z')) ++ _) = _
        rw [← List.append_assoc xs ys, List.take_append_of_le_length (by simp; omega), List.take_take, Nat.min_self]
        rw [List.take_append_of_le_length (by simp; omega), List.take_of_length_le (by simp; omega)]
    have hupd : Upd (fun k => some g = some k) w w4 :=
      ((((Upd.refl (fun k => k = g) w).drew).trans HU3.out (fun k hk => .inl hk)).trans HU4.out (fun k hk => .inl hk)).mono (fun k hk => .inl (by rw [hk]))
    have HF := Lib.hid hfin
    have HU := Lib.hid hupd
    clear hfin hupd
    go_ret
    exact ⟨_, _, rfl, HF.out, HU.out, .inl rfl⟩
  · go_region_law (refine step_append_in rfl (.tmp 22) (.tmp 25) 101 rfl 106 1 Try.underlying101 sizeE g i cap (by simp [Act.eval, Act.put]) _ 106 HG.out.drew (some ⟨g, i + 1, none⟩) m (cap - (i + 1)) (by simp [Act.eval, Act.put]) ys (by rw [HY.out, Nat.mul_one]) (fun h => ⟨_, rfl, fun j v hv => by rw [Addr.add_lit]; exact D2.out h j v hv⟩) HA.out (by omega) (by have := HX.out; have := HY.out; simp; omega) ?_; intro w3 hb3 hu3)
    have hb4 : Blk w3 g (xs ++ (ys ++ (y :: ys ++ Z).drop m)).toArray 106 := by
      have h := hb3
      rw [Nat.mul_one] at h
      have := blk_splice h HX.out
      rwa [HY.out] at this
    obtain ⟨z, Z', hz⟩ : ∃ z Z', (y :: ys ++ Z).drop m = z :: Z' := by
      cases h : (y :: ys ++ Z).drop m with
      | nil => have h1 := congrArg List.length h; have h2 := HY.out; first | (simp at h1; done) | (simp at h1; omega)
      | cons z Z' => exact ⟨z, Z', rfl⟩
    have hzl : 1 + Z'.length = 1 + Z.length := by have h1 := congrArg List.length hz; have h2 := HY.out; (try simp at h1); first | omega | (simp at h1 ⊢; omega) | simp_all
    rw [hz] at hb4
    have HB4 := Lib.hid hb4
    have HU3 := Lib.hid hu3
    have HZL := Lib.hid hzl
    clear hb3 hu3 hb4 hz hzl
    go_wp2_with ((with_reducible refine at_clear ?_); refine wpList_clear rfl _ _ rfl 106 1 8 _ Try.underlying101 infoE rfl (by simp [Value.cells, Value.oneCell']) g (i + m) 1 (cap - (i + m)) (by simp [Act.eval, Act.put]; try omega) _ 106 HB4.out (by have := HX.out; have := HY.out; simp; omega) (by omega) ?_; intro w4 hb5 hu4; have HB5 := Lib.hid hb5; have HU4 := Lib.hid hu4; clear hb5 hu4)
    have hfin : Own w4 106 1 (.slice (some ⟨g, 0, none⟩) (i + m) cap) (i + m) (xs ++ ys) (some g) := by
      have hxl := HX.out
      have hyl := HY.out
      have hz := HZ.out
      have hz2 := HZL.out
      refine ⟨by simp; omega, .inr ⟨g, cap, _, rfl, rfl, HB5.out, by omega, by unfold maxLen; omega, ?_, ?_⟩⟩
      · simp [size_zeroCells, Value.cells]; omega
      · rw [Nat.mul_one]
        show List.take _ (List.take (i + m) (xs ++ (ys ++ z :: Z')) ++ _) = _
        rw [← List.append_assoc xs ys, List.take_append_of_le_length (by simp; omega), List.take_take, Nat.min_self]
        rw [List.take_append_of_le_length (by simp; omega), List.take_of_length_le (by simp; omega)]
    have hupd : Upd (fun k => some g = some k) w w4 :=
      ((((Upd.refl (fun k => k = g) w).drew).trans HU3.out (fun k hk => .inl hk)).trans HU4.out (fun k hk => .inl hk)).mono (fun k hk => .inl (by rw [hk]))
    have HF := Lib.hid hfin
    have HU := Lib.hid hupd
    clear hfin hupd
    go_ret
    exact ⟨_, _, rfl, HF.out, HU.out, .inl rfl⟩
end Go.Proofs.Ytmfobcejnkakpaa.DelF
