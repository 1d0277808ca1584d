/- The disk's other functions: New, Read, Synced, Names, Arm, Down, Grow. -/
import Derived.Test.YtmfobcejnkakpaaDisk5
import Derived.Test.YtmfobcejnkakpaaCloneB
namespace Go.Proofs.Ytmfobcejnkakpaa
set_option linter.unusedVariables false
set_option linter.unusedSimpArgs false
open Go.RowKit
set_option maxRecDepth 100000

set_option maxHeartbeats 400000 in
theorem new_bad (n : Int) (w : World) (h : n < 0 ∨ 16777216 < n) : Calls Try.prog 19 #[.int .i64 n] w fun e w' => e = .returned (.tuple #[.pointer none, .int .i64 1]) ∧ w' = w := by
  rcases h with h | h
  · go_enter Try.func19, Try.ntmps19
    go_wp2
    go_ret2
    exact ⟨rfl, rfl⟩
  · have h0 : 0 ≤ n := by omega
    go_enter Try.func19, Try.ntmps19
    go_wp2
    go_ret2
    exact ⟨rfl, rfl⟩

/-- a disk that was just made -/
def NewPost (w : World) (n : Int) (e : Ending) (w' : World) : Prop :=
  ∃ d S, e = .returned (.tuple #[.pointer (some ⟨d, 0, none⟩), .int .i64 0]) ∧ DiskRep w' d (MD.new n) S ∧ Below w.heap.size w w' ∧ ∀ b, S b → w.heap.size ≤ b

set_option maxHeartbeats 400000 in
theorem new_ok (n : Int) (w : World) (h0 : 0 ≤ n) (h1 : n ≤ 16777216) : Calls Try.prog 19 #[.int .i64 n] w (NewPost w n) := by
  have hl : Lay (w.alloc (.cells #[.int .i64 n, .slice none 0 0, .int .i64 0, .bool false] 103)) w.heap.size (MD.new n) (.slice none 0 0) none [] :=
    ⟨Blk.new _ _ _, Own.nil _ _ _, by simp, rfl, by simp, by simp, MD.Ok.new h0 h1⟩
  have HL := Lib.hid hl
  clear hl
  go_enter Try.func19, Try.ntmps19
  go_wp2
  go_ret2
  refine ⟨_, _, rfl, ⟨_, _, _, HL.out, rfl⟩, (Below.refl _ _).alloc (Nat.le_refl _) _, ?_⟩
  rintro b (rfl | h | ⟨f, hf, _⟩)
  · exact Nat.le_refl _
  · cases h
  · cases hf

theorem down_any {w : World} {d : Nat} {m : MD} {S : Nat → Prop} (h : DiskRep w d m S) : Calls Try.prog 36 #[.pointer (some ⟨d, 0, none⟩)] w fun e w' => e = .returned (.bool m.down) ∧ w' = w := by
  obtain ⟨v, ga, fs, hl, rfl⟩ := h
  have c3 : w.cell? ⟨d, 3, none⟩ = some (.bool m.down) := hl.disk.cell 3
  clear hl
  go_enter Try.func36, Try.ntmps36
  go_wp2
  go_ret
  exact ⟨rfl, rfl⟩

theorem used_rep {w : World} {d : Nat} {m : MD} {S : Nat → Prop} (h : DiskRep w d m S) (hn : m.fs.length ≤ 1099511627775) : Calls Try.prog 30 #[.pointer (some ⟨d, 0, none⟩)] w fun e w' => e = .returned (.int .i64 m.used) ∧ w' = w := by
  obtain ⟨v, ga, fs, hl, rfl⟩ := h
  have : fs.length = m.fs.length := by rw [hl.abs, List.length_map]
  exact used_any hl (by omega)

/-- a disk's own numbers are others -/
theorem Lay.nums {w w' : World} {d : Nat} {m m' : MD} {v : Value} {ga : Option Nat} {fs : List FM} (h : Lay w d m v ga fs) (hb : Blk w' d (diskC m' v) 103) (hu : Upd (fun b => b = d) w w') (hf : m'.fs = m.fs) (ok : m'.Ok) : Lay w' d m' v ga fs := by
  refine ⟨hb, h.arr.upd hu (fun g hg e => h.d_ne_arr (by rw [hg, e])), fun f hf => (h.files f hf).upd hu (h.d_ne_p hf) (fun g hg e => h.d_ne_ob hf (by rw [hg, e])), ?_, h.pn, h.bn, ok⟩
  rw [hf]; exact h.abs

set_option maxHeartbeats 400000 in
theorem arm_any {w : World} {d : Nat} {m : MD} {S : Nat → Prop} (h : DiskRep w d m S) (n : Int) (h0 : -9223372036854775808 ≤ n) (h1 : n ≤ 9223372036854775807) :
    Calls Try.prog 33 #[.pointer (some ⟨d, 0, none⟩), .int .i64 n] w (DPost w d S (.tuple #[]) (m.arm n)) := by
  obtain ⟨v, ga, fs, hl, rfl⟩ := h
  have c3 : w.cell? ⟨d, 3, none⟩ = some (.bool m.down) := hl.disk.cell 3
  have c2 : w.cell? ⟨d, 2, none⟩ = some (.int .i64 m.armed) := hl.disk.cell 2
  have f2 := hl.disk.frozen 2
  have HL := Lib.hid hl
  have hok := hl.ok.arm n h1
  cases hd : m.down with
  | true =>
    have e : m.arm n = m := by simp [MD.arm, hd]
    rw [e]
    rw [hd] at c3
    clear hl hok e hd
    go_enter Try.func33, Try.ntmps33
    go_wp2
    go_end0
    exact DPost.same rfl ⟨v, ga, fs, HL.out, rfl⟩ (Upd.refl _ _)
  | false =>
    have e : m.arm n = { m with armed := max n 0 } := by simp [MD.arm, hd]
    rw [e] at hok ⊢
    have hb : Blk (w.setCell ⟨d, 2, none⟩ (.int .i64 (max n 0))) d (diskC { m with armed := max n 0 } v) 103 := hl.disk.set 2 _
    rw [hd] at c3
    by_cases hn : n < 0
    · have em : max n 0 = 0 := by omega
      rw [em] at hok hb ⊢
      have HOK := Lib.hid hok
      have HB := Lib.hid hb
      clear hl hok e hb hd em
      go_enter Try.func33, Try.ntmps33
      go_wp2
      go_end0
      exact DPost.same rfl ⟨v, ga, fs, HL.out.nums HB.out ((Upd.refl (fun b => b = d) w).setCell (p := ⟨d, 2, none⟩) (.inl rfl) _) rfl HOK.out, rfl⟩ (lay_upd_d ((Upd.refl (fun b => b = d) w).setCell (p := ⟨d, 2, none⟩) (.inl rfl) _))
    · have em : max n 0 = n := by omega
      rw [em] at hok hb ⊢
      have hn' : 0 ≤ n := by omega
      have HOK := Lib.hid hok
      have HB := Lib.hid hb
      clear hl hok e hb hd em hn
      go_enter Try.func33, Try.ntmps33
      go_wp2
      go_end0
      exact DPost.same rfl ⟨v, ga, fs, HL.out.nums HB.out ((Upd.refl (fun b => b = d) w).setCell (p := ⟨d, 2, none⟩) (.inl rfl) _) rfl HOK.out, rfl⟩ (lay_upd_d ((Upd.refl (fun b => b = d) w).setCell (p := ⟨d, 2, none⟩) (.inl rfl) _))

set_option maxHeartbeats 400000 in
theorem grow_any {w : World} {d : Nat} {m : MD} {S : Nat → Prop} (h : DiskRep w d m S) (hn : m.fs.length ≤ 1099511627775) (n : Int) :
    Calls Try.prog 31 #[.pointer (some ⟨d, 0, none⟩), .int .i64 n] w (DPost w d S (.bool (m.grow n).1) (m.grow n).2) := by
  have UC := used_rep h hn
  obtain ⟨v, ga, fs, hl, rfl⟩ := h
  have f0 := hl.disk.frozen 0
  have c0 : w.cell? ⟨d, 0, none⟩ = some (.int .i64 m.limit) := hl.disk.cell 0
  have HL := Lib.hid hl
  have UCH := Lib.hid UC
  have hok := hl.ok.grow n
  have hur := hl.ok.room
  have hl1 := hl.ok.lim1
  by_cases hbad : n < m.used ∨ 16777216 < n
  · have e : m.grow n = (false, m) := by simp only [MD.grow]; rw [if_pos hbad]
    rw [e]
    generalize m.used = U at *
    clear hl hok e UC
    rcases hbad with hb | hb
    · go_enter Try.func31, Try.ntmps31
      go_wp2_with (go_at_call 30; refine UCH.out.mono ?_; rintro e w' ⟨rfl, rfl⟩)
      go_ret
      exact DPost.same rfl ⟨v, ga, fs, HL.out, rfl⟩ (Upd.refl _ _)
    · have hb' : (U : Int) ≤ n := by omega
      go_enter Try.func31, Try.ntmps31
      go_wp2_with (go_at_call 30; refine UCH.out.mono ?_; rintro e w' ⟨rfl, rfl⟩)
      go_ret
      exact DPost.same rfl ⟨v, ga, fs, HL.out, rfl⟩ (Upd.refl _ _)
  · have e : m.grow n = (true, { m with limit := n }) := by simp only [MD.grow]; rw [if_neg hbad]
    rw [e] at hok ⊢
    have hb : Blk (w.setCell ⟨d, 0, none⟩ (.int .i64 n)) d (diskC { m with limit := n } v) 103 := hl.disk.set 0 _
    have h1 : (m.used : Int) ≤ n := by omega
    have h2 : n ≤ 16777216 := by omega
    have HOK := Lib.hid hok
    have HB := Lib.hid hb
    generalize m.used = U at *
    clear hl hok e UC hb hbad
    go_enter Try.func31, Try.ntmps31
    go_wp2_with (go_at_call 30; refine UCH.out.mono ?_; rintro e w' ⟨rfl, rfl⟩)
    go_ret
    exact DPost.same rfl ⟨v, ga, fs, HL.out.nums HB.out ((Upd.refl (fun b => b = d) _).setCell (p := ⟨d, 0, none⟩) (.inl rfl) _) rfl HOK.out, rfl⟩ (lay_upd_d ((Upd.refl (fun b => b = d) _).setCell (p := ⟨d, 0, none⟩) (.inl rfl) _))

/-- a file's bytes in new memory; false: there is none -/
def ReadPost (w : World) (o : Option MF) (e : Ending) (w' : World) : Prop :=
  match o with
  | none => e = .returned (.tuple #[.slice none 0 0, .bool false]) ∧ w' = w
  | some f => ∃ v ob, e = .returned (.tuple #[v, .bool true]) ∧ Own w' 5 1 v f.b.length (f.b.map bv) ob ∧ Below w.heap.size w w' ∧ ∀ g, ob = some g → w.heap.size ≤ g

theorem file_len {m : MD} (h : m.Ok) {f : MF} (hf : f ∈ m.fs) : f.b.length ≤ 16777216 := by
  have h1 := MD.usedL_drop h.rising (h.rising.get_of_mem hf)
  have h2 := h.room
  have h3 := h.lim1
  rw [MD.used_eq] at h2
  omega

set_option maxHeartbeats 400000 in
theorem read_any {w : World} {d : Nat} {m : MD} {S : Nat → Prop} (h : DiskRep w d m S) (hn : m.fs.length ≤ 1099511627775) (s : ByteArray) :
    Calls Try.prog 25 #[.pointer (some ⟨d, 0, none⟩), .string s] w (ReadPost w (m.get s.data.toList)) := by
  obtain ⟨v, ga, fs, hl, rfl⟩ := h
  have hfl : fs.length ≤ 1099511627776 := by have : fs.length = m.fs.length := by rw [hl.abs, List.length_map]
                                             omega
  cases hg : getL FM.key fs s.data.toList with
  | none =>
    rw [lay_getN hl hg]
    have FC := Lib.hid (file_none hl s hfl hg)
    clear hl hg
    go_enter Try.func25, Try.ntmps25
    go_wp2_with (go_at_call 70; refine FC.out.mono ?_; rintro e w' ⟨rfl, rfl⟩)
    go_ret2
    exact ⟨rfl, rfl⟩
  | some f =>
    rw [lay_getS hl hg]
    have FC := Lib.hid (file_some hl s hfl hg)
    have hfm := (get_mem hg).1
    have hfa := hl.files f hfm
    have hlen : f.b.length ≤ 16777216 := file_len hl.ok (f := f.abs) (by rw [hl.abs]; exact List.mem_map_of_mem hfm)
    have c1 : w.cell? ⟨f.p, 1, none⟩ = some f.v := hfa.blk.cell 1
    obtain ⟨fa, fc, hv, _, _⟩ := hfa.slice
    have CC := clone_any hfa.own.rd (bv_one _) (by omega)
    rw [hv] at c1 CC
    have CCH := Lib.hid CC
    have e : f.abs.b = f.b := rfl
    clear hl hg hfa CC hv
    go_enter Try.func25, Try.ntmps25
    go_wp2_with (first
      | (go_at_call 70; refine FC.out.mono ?_; rintro e w' ⟨rfl, rfl⟩)
      | (go_at_call 72; refine CCH.out.mono ?_; rintro e w1 ⟨v', ob', rfl, h1, h2, h3⟩; have H1 := Lib.hid h1; have H2 := Lib.hid h2; have H3 := Lib.hid h3; clear h1 h2 h3))
    go_ret2
    exact ⟨_, ob', rfl, H1.out, H2.out, H3.out⟩

set_option maxHeartbeats 400000 in
theorem synced_any {w : World} {d : Nat} {m : MD} {S : Nat → Prop} (h : DiskRep w d m S) (hn : m.fs.length ≤ 1099511627775) (s : ByteArray) :
    Calls Try.prog 85 #[.pointer (some ⟨d, 0, none⟩), .string s] w fun e w' => e = .returned (.int .i64 (((m.get s.data.toList).map MF.synced).getD 0 : Nat)) ∧ w' = w := by
  obtain ⟨v, ga, fs, hl, rfl⟩ := h
  have hfl : fs.length ≤ 1099511627776 := by have : fs.length = m.fs.length := by rw [hl.abs, List.length_map]
                                             omega
  cases hg : getL FM.key fs s.data.toList with
  | none =>
    rw [lay_getN hl hg]
    have FC := Lib.hid (file_none hl s hfl hg)
    clear hl hg
    go_enter Try.func85, Try.ntmps85
    go_wp2_with (go_at_call 70; refine FC.out.mono ?_; rintro e w' ⟨rfl, rfl⟩)
    go_ret
    exact ⟨rfl, rfl⟩
  | some f =>
    rw [lay_getS hl hg]
    have FC := Lib.hid (file_some hl s hfl hg)
    have hfa := hl.files f (get_mem hg).1
    have c1 : w.cell? ⟨f.p, 2, none⟩ = some (.int .i64 f.synced) := hfa.blk.cell 2
    clear hl hg hfa
    go_enter Try.func85, Try.ntmps85
    go_wp2_with (go_at_call 70; refine FC.out.mono ?_; rintro e w' ⟨rfl, rfl⟩)
    go_ret
    exact ⟨rfl, rfl⟩
end Go.Proofs.Ytmfobcejnkakpaa
