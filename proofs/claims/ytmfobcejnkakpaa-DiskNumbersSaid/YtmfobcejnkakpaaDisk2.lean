/- The disk's functions that only read; its count of calls. -/
import Derived.Test.YtmfobcejnkakpaaDisk1
namespace Go.Proofs.Ytmfobcejnkakpaa
set_option linter.unusedVariables false
set_option linter.unusedSimpArgs false
open Go.RowKit
set_option maxRecDepth 100000

theorem lbn_at {fs : List FM} (hr : Rising FM.key fs) {f : FM} (hf : f ∈ fs) : ∃ h : lbn fs f.key < fs.length, fs[lbn fs f.key] = f := by
  obtain ⟨k, hk, rfl⟩ := List.mem_iff_getElem.1 hf
  have hc := hr.cut (fs[k]).key k (by omega) (fun j hj hjk => List.pairwise_iff_getElem.1 hr j k hj hk hjk) (fun j hj hkj => by
    by_cases e : j = k
    · subst e; exact bl_irrefl _
    · exact bl_asymm (List.pairwise_iff_getElem.1 hr k j hk hj (by omega)))
  have : lbn fs (fs[k]).key = k := by
    have := congrArg List.length hc.1
    rw [List.length_take] at this
    unfold lbn; omega
  simp only [this]
  exact ⟨hk, trivial⟩
theorem lbn_le (fs : List FM) (s : Bs) : lbn fs s ≤ fs.length := List.length_filter_le _ _

theorem dright_any (s : ByteArray) (w : World) : Calls Try.prog 67 #[.string s] w fun e w' => e = .returned (.bool (MD.right s.data.toList)) ∧ w' = w := by
  have hs : s.data.toList.length = s.size := by simp
  unfold MD.right
  rw [hs]
  clear hs
  by_cases h : 0 < s.size
  all_goals
    go_enter Try.func67, Try.ntmps67
    go_wp2
    go_ret
    simp [h]
    try omega

theorem file_some {w : World} {d : Nat} {m : MD} {v : Value} {ga : Option Nat} {fs : List FM} (h : Lay w d m v ga fs) (s : ByteArray) (hn : fs.length ≤ 1099511627776) {f : FM} (hf : getL FM.key fs s.data.toList = some f) :
    Calls Try.prog 70 #[.pointer (some ⟨d, 0, none⟩), .string s] w fun e w' => e = .returned (.pointer (some ⟨f.p, 0, none⟩)) ∧ w' = w := by
  have hc1 : w.cell? ⟨d, 1, none⟩ = some v := h.disk.cell 1
  have CON := find_any h s hn
  obtain ⟨hm, hk⟩ := get_mem hf
  obtain ⟨hlt, hat⟩ := lbn_at h.rising hm
  rw [hk] at hlt
  have hat' : fs[lbn fs s.data.toList] = f := by simp only [hk] at hat; exact hat
  rw [hf] at CON
  obtain ⟨g, cap, cur, hv, _, _, _, _, _⟩ := h.arr.some_of (by omega)
  subst hv
  have hcell : w.cell? ⟨g, lbn fs s.data.toList, none⟩ = some (.pointer (some ⟨f.p, 0, none⟩)) := h.arr.cellAt (by rw [List.getElem?_map, List.getElem?_eq_getElem hlt, hat']; rfl)
  generalize lbn fs s.data.toList = i at *
  have CON' := Lib.hid CON
  clear CON h hf hm hk hat hat'
  go_enter Try.func70, Try.ntmps70
  go_wp2_with (go_at_call 107; refine CON'.out.mono ?_; rintro e w' ⟨rfl, rfl⟩)
  go_ret
  exact ⟨rfl, rfl⟩

theorem file_none {w : World} {d : Nat} {m : MD} {v : Value} {ga : Option Nat} {fs : List FM} (h : Lay w d m v ga fs) (s : ByteArray) (hn : fs.length ≤ 1099511627776) (hf : getL FM.key fs s.data.toList = none) :
    Calls Try.prog 70 #[.pointer (some ⟨d, 0, none⟩), .string s] w fun e w' => e = .returned (.pointer none) ∧ w' = w := by
  have CON := find_any h s hn
  rw [hf] at CON
  have CON' := Lib.hid CON
  clear CON h hf
  go_enter Try.func70, Try.ntmps70
  go_wp2_with (go_at_call 107; refine CON'.out.mono ?_; rintro e w' ⟨rfl, rfl⟩)
  go_ret
  exact ⟨rfl, rfl⟩

/-- the block of a disk's own -/
def diskC (m : MD) (v : Value) : Array Value := #[.int .i64 m.limit, v, .int .i64 m.armed, .bool m.down]

theorem power_any {w : World} {d : Nat} {m : MD} {v : Value} (h : Blk w d (diskC m v) 103) (h0 : 0 ≤ m.armed) (h1 : m.armed ≤ 9223372036854775807) :
    Calls Try.prog 68 #[.pointer (some ⟨d, 0, none⟩)] w fun e w' => e = .returned (.bool (!m.count.down)) ∧ Blk w' d (diskC m.count v) 103 ∧ Upd (fun b => b = d) w w' := by
  have c2 : w.cell? ⟨d, 2, none⟩ = some (.int .i64 m.armed) := h.cell 2
  have c3 : w.cell? ⟨d, 3, none⟩ = some (.bool m.down) := h.cell 3
  have f2 := h.frozen 2
  have f3 := h.frozen 3
  obtain ⟨lim, armed, down, fs⟩ := m
  dsimp only at *
  by_cases hp : 0 < armed
  · have hfin : Blk ((w.setCell ⟨d, 2, none⟩ (.int .i64 (armed - 1))).setCell ⟨d, 3, none⟩ (.bool (armed - 1 == 0))) d (diskC (MD.count ⟨lim, armed, down, fs⟩) v) 103 := by
      have := (h.set 2 (.int .i64 (armed - 1))).set 3 (.bool (armed - 1 == 0))
      simpa [diskC, MD.count, hp] using this
    have hret : (!(MD.count ⟨lim, armed, down, fs⟩).down) = !(armed - 1 == 0) := by simp [MD.count, hp]
    rw [hret]
    have HF := Lib.hid hfin
    clear hfin hret h
    go_enter Try.func68, Try.ntmps68
    go_wp2
    go_ret
    exact ⟨rfl, HF.out, ((Upd.refl (fun b => b = d) w).setCell (p := ⟨d, 2, none⟩) (.inl rfl) _).setCell (p := ⟨d, 3, none⟩) (.inl rfl) _⟩
  · have hret : (MD.count ⟨lim, armed, down, fs⟩) = ⟨lim, armed, down, fs⟩ := by simp [MD.count, hp]
    rw [hret]
    have HF := Lib.hid h
    clear hret h
    go_enter Try.func68, Try.ntmps68
    go_wp2
    go_ret
    exact ⟨rfl, HF.out, Upd.refl _ _⟩

/-- the lengths of the first files -/
def lens (fs : List FM) (k : Nat) : Nat := ((fs.take k).map fun f => f.b.length).sum
theorem lens_zero (fs : List FM) : lens fs 0 = 0 := rfl
theorem lens_succ (fs : List FM) {k : Nat} (hk : k < fs.length) : lens fs (k + 1) = lens fs k + (fs[k]).b.length := by
  unfold lens
  rw [List.take_succ_eq_append_getElem hk, List.map_append, List.sum_append]; simp
theorem lens_le (fs : List FM) (k : Nat) : lens fs k ≤ lens fs fs.length := by
  unfold lens
  rw [List.take_length]
  conv => rhs; rw [← List.take_append_drop k fs, List.map_append, List.sum_append]
  omega
theorem Lay.used {w : World} {d : Nat} {m : MD} {v : Value} {ga : Option Nat} {fs : List FM} (h : Lay w d m v ga fs) : m.used = lens fs fs.length := by
  unfold MD.used lens; rw [h.abs, List.map_map, List.take_length]; rfl
theorem FileAt.slice {w : World} {f : FM} (h : FileAt w f) : ∃ a c, f.v = .slice a f.b.length c ∧ f.b.length ≤ c ∧ c ≤ maxLen := by
  obtain ⟨_, _, a, c, hv, h1, h2, _⟩ := h.own.rd
  exact ⟨a, c, hv, h1, h2⟩

set_option maxHeartbeats 400000 in
theorem used_any {w : World} {d : Nat} {m : MD} {v : Value} {ga : Option Nat} {fs : List FM} (h : Lay w d m v ga fs) (hn : fs.length ≤ 1099511627776) :
    Calls Try.prog 30 #[.pointer (some ⟨d, 0, none⟩)] w fun e w' => e = .returned (.int .i64 m.used) ∧ w' = w := by
  have hc1 : w.cell? ⟨d, 1, none⟩ = some v := h.disk.cell 1
  have hlim := h.ok.room
  have hlim1 := h.ok.lim1
  have hu := h.used
  have hb : lens fs fs.length ≤ 16777216 := by omega
  rw [hu]
  have HB := Lib.hid hb
  have H := Lib.hid h
  clear hlim hlim1 hu hb h
  rcases H.out.arr.2 with ⟨rfl, h0, _⟩ | ⟨g, cap, cur, rfl, _, _, hcap, hcm, _⟩
  · have e : fs = [] := List.eq_nil_of_length_eq_zero h0
    subst e
    go_enter Try.func30, Try.ntmps30
    go_wp2
    refine wp_loop_rounds 1 ?_
    rw [rounds_succ]
    go_wp2_with fail
    go_ret
    exact ⟨rfl, rfl⟩
  · go_enter Try.func30, Try.ntmps30
    go_wp2
    go_loop [3, 11] (fun n i => ∃ k : Nat, k ≤ fs.length ∧ i = .int .i64 k ∧ n = .int .i64 (lens fs k)) (fun _ i => fs.length - (intOf i).toNat)
    case atStart => exact ⟨0, Nat.zero_le _, rfl, rfl⟩
    case round =>
      obtain ⟨k, hk, rfl, rfl⟩ := hrel
      by_cases hlt : k < fs.length
      · have hs := lens_succ fs hlt
        have hle := lens_le fs (k + 1)
        have hB := HB.out
        obtain ⟨a, c, hv, h1, h2⟩ := (H.out.files _ (List.getElem_mem hlt)).slice
        have c1 : w.cell? ⟨g, k, none⟩ = some (.pointer (some ⟨(fs[k]).p, 0, none⟩)) := H.out.arr.cellAt (by rw [List.getElem?_map, List.getElem?_eq_getElem hlt]; rfl)
        have c2 : w.cell? ⟨(fs[k]).p, 1, none⟩ = some (.slice a (fs[k]).b.length c) := by rw [← hv]; exact (H.out.files _ (List.getElem_mem hlt)).blk.cell 1
        have HS := Lib.hid hs
        generalize (fs[k]).b.length = y at *
        have hxy : lens fs k + y ≤ 16777216 := by have := HS.out; omega
        generalize (fs[k]).p = pp at *
        clear hle hB hv hs
        go_wp2
        go_round
        case rel => exact ⟨k + 1, by omega, by go_num, by rw [HS.out]; go_num⟩
        case measure => simp [intOf]; omega
      · obtain rfl : k = fs.length := by omega
        go_wp2
        go_ret
        exact ⟨rfl, rfl⟩
end Go.Proofs.Ytmfobcejnkakpaa
