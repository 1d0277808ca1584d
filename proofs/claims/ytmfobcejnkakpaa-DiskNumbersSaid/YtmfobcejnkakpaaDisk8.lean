/- The disk's crash. -/
import Derived.Test.YtmfobcejnkakpaaDisk7
namespace Go.Proofs.Ytmfobcejnkakpaa
set_option linter.unusedVariables false
set_option linter.unusedSimpArgs false
open Go.RowKit
set_option maxRecDepth 100000

def cutV (v : Value) (n : Nat) : Value := match v with | .slice a _ _ => .slice a n n | v => v
def crashF (keep : Int) (x : FM) : FM := { x with v := cutV x.v (MD.kept keep x.abs), b := x.b.take (MD.kept keep x.abs), synced := MD.kept keep x.abs }
def crashM (keep : Int) (f : MF) : MF := { f with b := f.b.take (MD.kept keep f), synced := MD.kept keep f }
def stepL {α : Type} (g : α → α) (l : List α) (k : Nat) : List α := (l.take k).map g ++ l.drop k

theorem set_at {α : Type} {key : α → Bs} {l : List α} (hr : Rising key l) {i : Nat} (hi : i < l.length) (g : α → α) : setL key l (key l[i]) g = l.take i ++ g l[i] :: l.drop (i + 1) := by
  have hx : l = l.take i ++ l[i] :: l.drop (i + 1) := by rw [List.getElem_cons_drop, List.take_append_drop]
  have h1 : ∀ x ∈ l.take i, key x ≠ key l[i] := fun x hx e => by
    obtain ⟨k, hk, rfl⟩ := List.mem_iff_getElem.1 hx
    rw [List.length_take] at hk
    rw [List.getElem_take] at e
    have := hr.key_inj (by omega) hi e
    omega
  have h2 : ∀ x ∈ l.drop (i + 1), key x ≠ key l[i] := fun x hx e => by
    obtain ⟨k, hk, rfl⟩ := List.mem_iff_getElem.1 hx
    rw [List.length_drop] at hk
    rw [List.getElem_drop] at e
    have := hr.key_inj (by omega) hi e
    omega
  have m1 : (l.take i).map (fun x => if key x = key l[i] then g x else x) = l.take i := by
    conv => rhs; rw [← List.map_id (l.take i)]
    exact List.map_congr_left fun x hx => by rw [if_neg (h1 x hx)]; rfl
  have m2 : (l.drop (i + 1)).map (fun x => if key x = key l[i] then g x else x) = l.drop (i + 1) := by
    conv => rhs; rw [← List.map_id (l.drop (i + 1))]
    exact List.map_congr_left fun x hx => by rw [if_neg (h2 x hx)]; rfl
  unfold setL
  generalize hs : key l[i] = s at *
  conv => lhs; rw [hx]
  rw [List.map_append, List.map_cons, m1, m2, if_pos hs]

theorem stepL_zero {α : Type} (g : α → α) (l : List α) : stepL g l 0 = l := by simp [stepL]
theorem stepL_all {α : Type} (g : α → α) (l : List α) : stepL g l l.length = l.map g := by simp [stepL]
theorem stepL_length {α : Type} (g : α → α) (l : List α) {k : Nat} (hk : k ≤ l.length) : (stepL g l k).length = l.length := by simp [stepL]; omega
theorem stepL_at {α : Type} (g : α → α) (l : List α) {k : Nat} (hk : k < l.length) : ∃ h : k < (stepL g l k).length, (stepL g l k)[k] = l[k] := by
  refine ⟨by rw [stepL_length g l (by omega)]; exact hk, ?_⟩
  simp only [stepL]
  rw [List.getElem_append_right (by simp; omega)]
  simp [Nat.min_eq_left (Nat.le_of_lt hk)]
theorem stepL_succ {α : Type} (g : α → α) (l : List α) {k : Nat} (hk : k < l.length) : stepL g l (k + 1) = (stepL g l k).take k ++ g l[k] :: (stepL g l k).drop (k + 1) := by
  have hlen : ((l.take k).map g).length = k := by simp; omega
  have e1 : (stepL g l k).take k = (l.take k).map g := by
    unfold stepL; exact List.take_left' hlen
  have e2 : (stepL g l k).drop (k + 1) = l.drop (k + 1) := by
    unfold stepL; rw [List.drop_append, hlen, List.drop_eq_nil_of_le (by omega), Nat.add_sub_cancel_left, List.nil_append, List.drop_drop]
  rw [e1, e2]
  unfold stepL
  rw [List.take_succ_eq_append_getElem hk, List.map_append, List.map_cons, List.map_nil, List.append_assoc]; rfl
theorem stepL_map {α β : Type} (φ : α → β) (g : α → α) (g' : β → β) (h : ∀ x, φ (g x) = g' (φ x)) (l : List α) (k : Nat) : (stepL g l k).map φ = stepL g' (l.map φ) k := by
  simp [stepL, List.map_take, List.map_drop, Function.comp_def, h]

theorem MD.Ok.step {m : MD} (h : m.Ok) (keep : Int) (k : Nat) : MD.Ok { m with fs := stepL (crashM keep) m.fs k } := by
  have hmem : ∀ f ∈ stepL (crashM keep) m.fs k, f ∈ m.fs ∨ ∃ x ∈ m.fs, f = crashM keep x := by
    intro f hf
    rcases List.mem_append.1 hf with hf | hf
    · obtain ⟨x, hx, rfl⟩ := List.mem_map.1 hf; exact .inr ⟨x, List.mem_of_mem_take hx, rfl⟩
    · exact .inl (List.mem_of_mem_drop hf)
  have hu : ∀ l : List MF, MD.usedL (l.map (crashM keep)) ≤ MD.usedL l := by
    intro l
    induction l with
    | nil => exact Nat.le_refl _
    | cons x l ih => rw [List.map_cons, MD.usedL_cons, MD.usedL_cons]; simp [crashM]; omega
  refine h.files _ (h.rising.of_keys ?_) ?_ ?_ ?_
  · rw [stepL_map MF.name (crashM keep) id (fun _ => rfl)]; simp [stepL]
  · have h1 := hu (m.fs.take k)
    have h2 := h.fill
    have h3 : MD.usedL m.fs = MD.usedL (m.fs.take k) + MD.usedL (m.fs.drop k) := by rw [← MD.usedL_append, List.take_append_drop]
    unfold stepL
    rw [MD.usedL_append]
    omega
  · intro f hf
    rcases hmem f hf with hf | ⟨x, hx, rfl⟩
    · exact h.names f hf
    · exact h.names x hx
  · intro f hf
    rcases hmem f hf with hf | ⟨x, hx, rfl⟩
    · exact h.synced f hf
    · have := MD.kept_le (keep := keep) (h.synced x hx)
      simp [crashM]; omega

def CrashRel (w : World) (d : Nat) (m : MD) (v : Value) (ga : Option Nat) (fs : List FM) (keep : Int) (k : Nat) (wr : World) : Prop :=
  Lay wr d { m with fs := (stepL (crashF keep) fs k).map FM.abs } v ga (stepL (crashF keep) fs k) ∧ Upd (DS d ga fs) w wr

theorem crash_step {w wr : World} {d : Nat} {m : MD} {v : Value} {ga : Option Nat} {fs : List FM} {keep : Int} {k : Nat} (hm : m.Ok) (habs : m.fs = fs.map FM.abs) (h1 : Lay wr d { m with fs := (stepL (crashF keep) fs k).map FM.abs } v ga (stepL (crashF keep) fs k)) (h2 : Upd (DS d ga fs) w wr) (hlt : k < fs.length)
    {fa : Option Addr} {fc nn : Nat} (hv : (fs[k]).v = .slice fa (fs[k]).b.length fc) (hnn : MD.kept keep (fs[k]).abs = nn) (nq : Nat) :
    CrashRel w d m v ga fs keep (k + 1) (((wr.drewN nq).setCell ⟨(fs[k]).p, 1, none⟩ (.slice fa nn nn)).setCell ⟨(fs[k]).p, 2, none⟩ (.int .i64 nn)) := by
  obtain ⟨hltk, hat⟩ := stepL_at (crashF keep) fs hlt
  have hr := h1.rising
  have hfm : fs[k] ∈ stepL (crashF keep) fs k := by rw [← hat]; exact List.getElem_mem hltk
  have hfa := h1.files _ hfm
  have hget : getL FM.key (stepL (crashF keep) fs k) (fs[k]).key = some fs[k] := hr.get_of_mem hfm
  have hset : setL FM.key (stepL (crashF keep) fs k) (fs[k]).key (crashF keep) = stepL (crashF keep) fs (k + 1) := by
    have := set_at hr hltk (crashF keep)
    rw [hat] at this
    rw [this, ← stepL_succ (crashF keep) fs hlt]
  have hkl : nn ≤ (fs[k]).b.length := by
    rw [← hnn]; exact MD.kept_le (h1.ok.synced (fs[k]).abs (List.mem_map_of_mem hfm))
  have hg : crashF keep fs[k] = { fs[k] with v := .slice fa nn nn, b := (fs[k]).b.take nn, synced := nn } := by
    unfold crashF; rw [hnn, hv]; rfl
  have hu : Upd (fun b => b = (fs[k]).p) wr (((wr.drewN nq).setCell ⟨(fs[k]).p, 1, none⟩ (.slice fa nn nn)).setCell ⟨(fs[k]).p, 2, none⟩ (.int .i64 nn)) :=
    (((Upd.refl (fun b => b = (fs[k]).p) wr).drewN nq).setCell (p := ⟨(fs[k]).p, 1, none⟩) (.inl rfl) _).setCell (p := ⟨(fs[k]).p, 2, none⟩) (.inl rfl) _
  have hown : Own (((wr.drewN nq).setCell ⟨(fs[k]).p, 1, none⟩ (.slice fa nn nn)).setCell ⟨(fs[k]).p, 2, none⟩ (.int .i64 nn)) 5 1 (.slice fa nn nn) nn (((fs[k]).b.take nn).map bv) (fs[k]).ob :=
    (((hfa.cutTo hkl hv).drewN nq).setOther (a := ⟨(fs[k]).p, 1, none⟩) (h1.p_ne_ob hfm hfm) _).setOther (a := ⟨(fs[k]).p, 2, none⟩) (h1.p_ne_ob hfm hfm) _
  have hnew : FileAt (((wr.drewN nq).setCell ⟨(fs[k]).p, 1, none⟩ (.slice fa nn nn)).setCell ⟨(fs[k]).p, 2, none⟩ (.int .i64 nn)) (crashF keep fs[k]) := by
    rw [hg]
    refine ⟨((hfa.blk.drewN nq).set 1 _).set 2 _, ?_⟩
    have e : ((fs[k]).b.take nn).length = nn := by simp; omega
    show Own _ _ _ _ ((fs[k]).b.take nn).length _ _
    rw [e]; exact hown
  have hok := MD.Ok.step hm keep (k + 1)
  have hmap : (stepL (crashF keep) fs (k + 1)).map FM.abs = stepL (crashM keep) m.fs (k + 1) := by rw [stepL_map FM.abs (crashF keep) (crashM keep) (fun _ => rfl), ← habs]
  rw [← hmap] at hok
  have hl := h1.setFile (m' := { m with fs := (stepL (crashF keep) fs (k + 1)).map FM.abs }) hget (crashF keep) (fun _ => rfl) (fun _ => rfl) hu (fun b hb => .inl hb) hnew (.inl rfl) rfl rfl rfl (by rw [hset]) hok
  rw [hset] at hl
  exact ⟨hl, h2.trans hu (fun b hb => .inl (by rw [hb]; exact .inr (.inr ⟨fs[k], List.getElem_mem hlt, .inl rfl⟩)))⟩

theorem stepL_DS (d : Nat) (ga : Option Nat) (fs : List FM) (keep : Int) (k : Nat) : ∀ b, DS d ga (stepL (crashF keep) fs k) b → DS d ga fs b := by
  rintro b (h | h | ⟨x, hx, h⟩)
  · exact .inl h
  · exact .inr (.inl h)
  · rcases List.mem_append.1 hx with hx | hx
    · obtain ⟨y, hy, rfl⟩ := List.mem_map.1 hx
      exact .inr (.inr ⟨y, List.mem_of_mem_take hy, h⟩)
    · exact .inr (.inr ⟨x, List.mem_of_mem_drop hx, h⟩)

/-- the end: nothing is armed, power is there -/
theorem crash_end {w wr : World} {d : Nat} {m : MD} {v : Value} {ga : Option Nat} {fs : List FM} {keep : Int} (hm : m.Ok) (habs : m.fs = fs.map FM.abs) (h : CrashRel w d m v ga fs keep fs.length wr) :
    DPost w d (DS d ga fs) (.tuple #[]) (m.crash keep) (.returned (.tuple #[])) ((wr.setCell ⟨d, 2, none⟩ (.int .i64 0)).setCell ⟨d, 3, none⟩ (.bool false)) := by
  obtain ⟨h1, h2⟩ := h
  have hu : Upd (fun b => b = d) wr ((wr.setCell ⟨d, 2, none⟩ (.int .i64 0)).setCell ⟨d, 3, none⟩ (.bool false)) := ((Upd.refl (fun b => b = d) wr).setCell (p := ⟨d, 2, none⟩) (.inl rfl) _).setCell (p := ⟨d, 3, none⟩) (.inl rfl) _
  have e : (stepL (crashF keep) fs fs.length).map FM.abs = (m.crash keep).fs := by
    rw [stepL_map FM.abs (crashF keep) (crashM keep) (fun _ => rfl), ← habs, show fs.length = m.fs.length by rw [habs, List.length_map], stepL_all]; rfl
  refine ⟨rfl, DS d ga (stepL (crashF keep) fs fs.length), ⟨v, ga, _, h1.nums (m' := m.crash keep) ((h1.disk.set 2 _).set 3 _) hu e.symm (hm.crash keep), rfl⟩, h2.trans hu (fun b hb => .inl (by rw [hb]; exact .inl rfl)), fun b hb => .inl (stepL_DS d ga fs keep _ b hb)⟩

set_option maxHeartbeats 1000000 in
theorem crash_any {w : World} {d : Nat} {m : MD} {S : Nat → Prop} (h : DiskRep w d m S) (hn : m.fs.length ≤ 1099511627775) (keep : Int) (hk0 : -9223372036854775808 ≤ keep) (hk1 : keep ≤ 9223372036854775807) :
    Calls Try.prog 29 #[.pointer (some ⟨d, 0, none⟩), .int .i64 keep] w (DPost w d S (.tuple #[]) (m.crash keep)) := by
  obtain ⟨v, ga, fs, hl, rfl⟩ := h
  have hlen : m.fs.length = fs.length := by rw [hl.abs, List.length_map]
  have hfl : fs.length ≤ 1099511627776 := by omega
  have hc1 : w.cell? ⟨d, 1, none⟩ = some v := hl.disk.cell 1
  have H := Lib.hid hl
  clear hlen hn
  rcases hl.arr.2 with ⟨rfl, h0, _⟩ | ⟨g, cap, cur, rfl, _, _, hcap, hcm, _⟩
  · have e : fs = [] := List.eq_nil_of_length_eq_zero h0
    subst e
    have f2 := hl.disk.frozen 2
    have f3 := hl.disk.frozen 3
    have c2 : w.cell? ⟨d, 2, none⟩ = some (.int .i64 m.armed) := hl.disk.cell 2
    have c3 : w.cell? ⟨d, 3, none⟩ = some (.bool m.down) := hl.disk.cell 3
    clear hl
    go_enter Try.func29, Try.ntmps29
    go_wp2
    refine wp_loop_rounds 1 ?_
    rw [rounds_succ]
    go_wp2_with fail
    go_end0
    exact crash_end H.out.ok H.out.abs ⟨by have := H.out; rw [show (stepL (crashF keep) [] ([] : List FM).length) = [] from rfl, show ({ m with fs := ([] : List FM).map FM.abs } : MD) = m from by rw [← this.abs]]; exact this, Upd.refl _ _⟩
  · clear hl
    go_enter Try.func29, Try.ntmps29
    go_wp2
    go_loopw [12] (fun vi wr => ∃ k : Nat, k ≤ fs.length ∧ vi = .int .i64 k ∧ CrashRel w d m (.slice (some ⟨g, 0, none⟩) fs.length cap) ga fs keep k wr) (fun vi _ => fs.length - (intOf vi).toNat)
    case atStart => exact ⟨0, Nat.zero_le _, rfl, by rw [stepL_zero, ← H.out.abs]; exact H.out, Upd.refl _ _⟩
    case round =>
      obtain ⟨k, hk, rfl, h1, h2⟩ := hrel
      have H1 := Lib.hid h1
      have H2 := Lib.hid h2
      clear h1 h2
      by_cases hlt : k < fs.length
      · obtain ⟨hltk, hat⟩ := stepL_at (crashF keep) fs hlt
        have hfm : fs[k] ∈ stepL (crashF keep) fs k := by rw [← hat]; exact List.getElem_mem hltk
        have hfa := H1.out.files _ hfm
        have c1 : wr.cell? ⟨g, k, none⟩ = some (.pointer (some ⟨(fs[k]).p, 0, none⟩)) := by
          have := H1.out.arr
          rw [stepL_length _ _ hk] at this
          exact this.cellAt (by rw [List.getElem?_map, List.getElem?_eq_getElem hltk, hat]; rfl)
        obtain ⟨fa, fc, hv, hle, hfcm⟩ := hfa.slice
        have c2 : wr.cell? ⟨(fs[k]).p, 1, none⟩ = some (.slice fa (fs[k]).b.length fc) := by rw [← hv]; exact hfa.blk.cell 1
        have c3 : wr.cell? ⟨(fs[k]).p, 2, none⟩ = some (.int .i64 (fs[k]).synced) := hfa.blk.cell 2
        have f1 := hfa.blk.frozen 1
        have f2 := hfa.blk.frozen 2
        have hsy : (fs[k]).synced ≤ (fs[k]).b.length := H1.out.ok.synced (fs[k]).abs (List.mem_map_of_mem hfm)
        have hKEPT : MD.kept keep (fs[k]).abs = (fs[k]).synced + min keep.toNat ((fs[k]).b.length - (fs[k]).synced) := rfl
        have HK := Lib.hid hKEPT
        have HV := Lib.hid hv
        have HFM := Lib.hid hfm
        unfold maxLen at hfcm
        generalize hp : (fs[k]).p = pp at *
        generalize hsn : (fs[k]).synced = sn at *
        generalize hbl : (fs[k]).b.length = bl at *
        have HP := Lib.hid hp
        have HSN := Lib.hid hsn
        have HBL := Lib.hid hbl
        clear hp hsn hbl hfa hKEPT hv hat hfm
        have hsy' : (sn : Int) ≤ bl := by omega
        have hsub : IntKind.i64.wrap ((bl : Int) - sn) = (bl : Int) - sn := IntWalk.i64_in _ (by omega)
        by_cases hneg : keep < 0
        · have hz : ¬ ((bl : Int) - sn < 0) := by omega
          go_wp2
          go_quiet (fail)
          go_wp2
          refine ⟨⟨k + 1, by omega, by go_num, ?_⟩, by simp [intOf]; omega⟩
          have := crash_step H.out.ok H.out.abs H1.out H2.out hlt (nn := sn) (by rw [HBL.out]; exact HV.out) (by rw [HK.out]; omega) nq
          rw [HP.out] at this; exact this
        · by_cases hkp : keep ≤ (bl : Int) - sn
          · go_wp2
            go_quiet (fail)
            go_wp2
            refine ⟨⟨k + 1, by omega, by go_num, ?_⟩, by simp [intOf]; omega⟩
            rw [show ((sn : Int) + keep) = ((sn + keep.toNat : Nat) : Int) by omega, Int.toNat_natCast]
            have := crash_step H.out.ok H.out.abs H1.out H2.out hlt (nn := sn + keep.toNat) (by rw [HBL.out]; exact HV.out) (by rw [HK.out]; omega) nq
            rw [HP.out] at this; exact this
          · go_wp2
            go_quiet (fail)
            go_wp2
            refine ⟨⟨k + 1, by omega, by go_num, ?_⟩, by simp [intOf]; omega⟩
            rw [show ((sn : Int) + ((bl : Int) - sn)) = (bl : Int) by omega]
            have := crash_step H.out.ok H.out.abs H1.out H2.out hlt (nn := bl) (by rw [HBL.out]; exact HV.out) (by rw [HK.out]; omega) nq
            rw [HP.out] at this; exact this
      · obtain rfl : k = fs.length := by omega
        have f2 := H1.out.disk.frozen 2
        have f3 := H1.out.disk.frozen 3
        have c2 : wr.cell? ⟨d, 2, none⟩ = some (.int .i64 m.armed) := H1.out.disk.cell 2
        have c3 : wr.cell? ⟨d, 3, none⟩ = some (.bool m.down) := H1.out.disk.cell 3
        go_wp2
        go_end0
        exact crash_end H.out.ok H.out.abs ⟨H1.out, H2.out⟩
end Go.Proofs.Ytmfobcejnkakpaa
