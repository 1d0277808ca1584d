/- The disk: a file comes to stand in the list, goes out of it. -/
import Derived.Test.YtmfobcejnkakpaaDisk2
import Derived.Test.YtmfobcejnkakpaaInsF
import Derived.Test.YtmfobcejnkakpaaDelF
namespace Go.Proofs.Ytmfobcejnkakpaa
set_option linter.unusedVariables false
set_option linter.unusedSimpArgs false
open Go.RowKit
set_option maxRecDepth 100000

/-- the list of files is another one -/
def Relist (w : World) (d : Nat) (m : MD) (ga : Option Nat) (fs : List FM) (e : Ending) (w' : World) : Prop :=
  e = .returned (.tuple #[]) ∧ ∃ v' ga', Blk w' d (diskC m v') 103 ∧ Own w' 106 1 v' fs.length (fs.map fun f => ptrV f.p) ga' ∧ Upd (fun b => b = d ∨ ga = some b) w w' ∧ (ga' = ga ∨ ∀ g, ga' = some g → w.heap.size ≤ g)

theorem Own.shape {w : World} {e : TypeId} {size n : Nat} {v : Value} {xs : List Value} {ob : Option Nat} (h : Own w e size v n xs ob) : ∃ a c, v = .slice a n c := by
  obtain ⟨_, _, a, c, hv, _⟩ := h.rd
  exact ⟨a, c, hv⟩

theorem ptr_one (fs : List FM) : ∀ u ∈ fs.map (fun f => ptrV f.p), u.oneCell' = true := by
  intro u hu; obtain ⟨f, _, rfl⟩ := List.mem_map.1 hu; rfl

theorem putL_some {fs : List FM} (hr : Rising FM.key fs) {f f0 : FM} (hf : getL FM.key fs f.key = some f0) : putL FM.key fs f = fs.set (lbn fs f.key) f := by
  obtain ⟨hm, hk⟩ := get_mem hf
  obtain ⟨hlt, hat⟩ := lbn_at hr hm
  rw [hk] at hlt
  have hat' : (fs[lbn fs f.key]).key = f.key := by simp only [hk] at hat; rw [hat]; exact hk
  have h1 : ∀ (k : Nat) (h : k < fs.length), k < lbn fs f.key → bl (fs[k]).key f.key = true := fun k h hk' => by rw [← hat']; exact List.pairwise_iff_getElem.1 hr _ _ h hlt hk'
  have h2 : ∀ (k : Nat) (h : k < fs.length), lbn fs f.key ≤ k → bl (fs[k]).key f.key = false := fun k h hk' => by
    by_cases e : k = lbn fs f.key
    · subst e; rw [hat']; exact bl_irrefl _
    · exact bl_asymm (by rw [← hat']; exact List.pairwise_iff_getElem.1 hr _ _ hlt h (by omega))
  obtain ⟨c1, _⟩ := hr.cut f.key (lbn fs f.key) (by omega) h1 h2
  have c2 := hr.behind_some hlt hat' h1
  unfold putL
  rw [← c1, ← c2, List.set_eq_take_append_cons_drop, if_pos hlt]
theorem putL_none {fs : List FM} (hr : Rising FM.key fs) {f : FM} (hf : getL FM.key fs f.key = none) : putL FM.key fs f = fs.take (lbn fs f.key) ++ f :: fs.drop (lbn fs f.key) := by
  rw [get_none] at hf
  -- what stands ahead is a beginning
  have hex : ∃ i, i ≤ fs.length ∧ (∀ (k : Nat) (h : k < fs.length), k < i → bl (fs[k]).key f.key = true) ∧ (∀ (k : Nat) (h : k < fs.length), i ≤ k → bl (fs[k]).key f.key = false) := by
    clear hf
    induction fs with
    | nil => exact ⟨0, Nat.le_refl _, fun k h => absurd h (by simp), fun k h => absurd h (by simp)⟩
    | cons x l ih =>
      have hp := List.pairwise_cons.1 hr
      cases hx : bl x.key f.key with
      | true =>
        obtain ⟨i, h1, h2, h3⟩ := ih hp.2
        refine ⟨i + 1, by simpa using h1, fun k h hk => ?_, fun k h hk => ?_⟩
        · rcases k with _ | k
          · exact hx
          · exact h2 k (by simpa using h) (by omega)
        · rcases k with _ | k
          · omega
          · exact h3 k (by simpa using h) (by omega)
      | false =>
        refine ⟨0, Nat.zero_le _, fun k _ hk => by omega, fun k h _ => ?_⟩
        rcases k with _ | k
        · exact hx
        · have hk : k < l.length := by simpa using h
          have := hp.1 _ (List.getElem_mem hk)
          cases h' : bl (l[k]).key f.key with
          | false => simpa using h'
          | true => have := bl_trans this h'; rw [hx] at this; cases this
  obtain ⟨i, hi, h1, h2⟩ := hex
  obtain ⟨c1, c2⟩ := hr.cut f.key i hi h1 h2
  have e : lbn fs f.key = i := by have := congrArg List.length c1; rw [List.length_take] at this; unfold lbn; omega
  unfold putL
  rw [e, c1, c2, filter_behind hf]
theorem dropL_some {fs : List FM} (hr : Rising FM.key fs) {s : Bs} {f0 : FM} (hf : getL FM.key fs s = some f0) : dropL FM.key fs s = fs.take (lbn fs s) ++ fs.drop (lbn fs s + 1) := by
  obtain ⟨hm, rfl⟩ := get_mem hf
  obtain ⟨hlt, hat⟩ := lbn_at hr hm
  have hx : fs = fs.take (lbn fs f0.key) ++ fs[lbn fs f0.key] :: fs.drop (lbn fs f0.key + 1) := by rw [List.getElem_cons_drop, List.take_append_drop]
  have hr' := hr
  conv => lhs; rw [hx]
  unfold dropL
  rw [List.filter_append, List.filter_cons, hat]
  simp only [bne_self_eq_false, Bool.false_eq_true, if_false]
  congr 1
  · rw [List.filter_eq_self]
    intro x hx
    obtain ⟨k, hk, rfl⟩ := List.mem_iff_getElem.1 hx
    rw [List.length_take] at hk
    rw [List.getElem_take]
    have := bl_ne (List.pairwise_iff_getElem.1 hr k _ (by omega) hlt (by omega))
    rw [hat] at this
    simpa using this
  · rw [List.filter_eq_self]
    intro x hx
    obtain ⟨k, hk, rfl⟩ := List.mem_iff_getElem.1 hx
    rw [List.length_drop] at hk
    rw [List.getElem_drop]
    have := bl_ne (List.pairwise_iff_getElem.1 hr _ (lbn fs f0.key + 1 + k) hlt (by omega) (by omega))
    rw [hat] at this
    simpa using this.symm

set_option maxHeartbeats 400000 in
theorem put_any {w : World} {d : Nat} {m : MD} {v : Value} {ga : Option Nat} {fs : List FM} (h : Lay w d m v ga fs) (hn : fs.length ≤ 1099511627775) (f : FM) (hf : Blk w f.p #[.string f.name, f.v, .int .i64 f.synced] 108) :
    Calls Try.prog 69 #[.pointer (some ⟨d, 0, none⟩), .pointer (some ⟨f.p, 0, none⟩)] w (Relist w d m ga (putL FM.key fs f)) := by
  have c0 : w.cell? ⟨f.p, 0, none⟩ = some (.string f.name) := hf.cell 0
  have c1 : w.cell? ⟨d, 1, none⟩ = some v := h.disk.cell 1
  have f1 := h.disk.frozen 1
  have CON := find_any h f.name (by omega)
  have hk : f.name.data.toList = f.key := rfl
  rw [hk] at CON
  cases hg : getL FM.key fs f.key with
  | some f0 =>
    rw [hg] at CON
    rw [putL_some h.rising hg]
    obtain ⟨hm, hk0⟩ := get_mem hg
    obtain ⟨hlt, _⟩ := lbn_at h.rising hm
    rw [hk0] at hlt
    obtain ⟨g, cap, cur, rfl, rfl, hb, hnc, hcm, hcs, htake⟩ := h.arr.some_of (by omega)
    have hfz := hb.frozen (lbn fs f.key)
    have hcell : w.cell? ⟨g, lbn fs f.key, none⟩ = some (.pointer (some ⟨(fs[lbn fs f.key]).p, 0, none⟩)) := h.arr.cellAt (by rw [List.getElem?_map, List.getElem?_eq_getElem hlt]; rfl)
    have hne : g ≠ d := fun e => h.d_ne_arr (by rw [e])
    have hfin : Relist w d m (some g) (fs.set (lbn fs f.key) f) (.returned (.tuple #[])) (w.setCell ⟨g, lbn fs f.key, none⟩ (.pointer (some ⟨f.p, 0, none⟩))) := by
      refine ⟨rfl, .slice (some ⟨g, 0, none⟩) fs.length cap, some g, h.disk.setOther hne _, ?_, (Upd.refl _ _).setCell (.inl (.inr rfl)) _, .inl rfl⟩
      have hl := h.arr.len
      rw [Nat.mul_one] at hcs htake
      refine ⟨by simp, .inr ⟨g, cap, _, by rw [List.length_set], rfl, hb.set _ _, by simpa using hnc, hcm, by simpa using hcs, ?_⟩⟩
      rw [Nat.mul_one, List.length_set, Array.toList_setIfInBounds, List.take_set, htake, List.map_set]
      rfl
    have HF := Lib.hid hfin
    have CON' := Lib.hid CON
    generalize lbn fs f.key = i at *
    clear CON hfin h hf hb hcs htake hne hg hm hk hk0
    go_enter Try.func69, Try.ntmps69
    go_wp2_with (go_at_call 107; refine CON'.out.mono ?_; rintro e w' ⟨rfl, rfl⟩)
    go_end0
    exact HF.out
  | none =>
    rw [hg] at CON
    rw [putL_none h.rising hg]
    have hi := lbn_le fs f.key
    have ho := h.arr
    have HD := Lib.hid h.disk
    have HA := Lib.hid h.d_ne_arr
    have HO := Lib.hid ho
    have CON' := Lib.hid CON
    generalize lbn fs f.key = i at *
    have hlen : (fs.take i ++ f :: fs.drop i).length = fs.length + 1 := by simp; omega
    have hmap : (fs.take i ++ f :: fs.drop i).map (fun f => ptrV f.p) = (fs.map fun f => ptrV f.p).take i ++ ptrV f.p :: (fs.map fun f => ptrV f.p).drop i := by simp
    have HL := Lib.hid hlen
    have HM := Lib.hid hmap
    have hlt := h.disk.lt
    clear CON h hf ho hg hk hlen hmap
    go_enter Try.func69, Try.ntmps69
    go_wp2_with (first
      | (go_at_call 107; refine CON'.out.mono ?_; rintro e w' ⟨rfl, rfl⟩)
      | (go_at_call 108; refine (InsF.insert_any v fs.length i _ ga _ _ _ (HO.out.alloc _) hi (Blk.new _ _ _) (fun e => absurd (HO.out.lt _ e) (Nat.lt_irrefl _)) rfl (ptr_one fs) (by omega)).mono ?_; rintro e w1 ⟨v', ob', rfl, h1, h2, h3⟩
         obtain ⟨a', c', rfl⟩ := h1.shape; have HD1 := Lib.hid ((HD.out.alloc _).upd h2 HA.out); have H1 := Lib.hid h1; have H2 := Lib.hid h2; have H3 := Lib.hid h3; clear h1 h2 h3
         have c1' : w1.cell? ⟨d, 1, none⟩ = some v := HD1.out.cell 1
         have f1' := HD1.out.frozen 1))
    go_end0
    have hne : ob' ≠ some d := by
      rcases H3.out with h | h
      · rw [h]; exact HA.out
      · intro e; have := h d e; simp at this; omega
    have hB : Blk (w1.setCell ⟨d, 1, none⟩ (.slice a' (fs.length + 1) c')) d (diskC m (.slice a' (fs.length + 1) c')) 103 := HD1.out.set 1 _
    refine ⟨rfl, .slice a' (fs.length + 1) c', ob', hB, ?_, ?_, ?_⟩
    · rw [HL.out, HM.out]; exact H1.out.setOther hne _
    · exact (((Upd.refl (fun b => b = d ∨ ga = some b) w').alloc _).trans H2.out (fun k hk => .inl (.inr hk))).setCell (p := ⟨d, 1, none⟩) (.inl (.inl rfl)) _
    · rcases H3.out with h | h
      · exact .inl h
      · exact .inr fun g hg => by have := h g hg; simp at this; omega

set_option maxHeartbeats 400000 in
theorem drop_any {w : World} {d : Nat} {m : MD} {v : Value} {ga : Option Nat} {fs : List FM} (h : Lay w d m v ga fs) (hn : fs.length ≤ 1099511627776) (s : ByteArray) (f0 : FM) (hg : getL FM.key fs s.data.toList = some f0) :
    Calls Try.prog 71 #[.pointer (some ⟨d, 0, none⟩), .string s] w (Relist w d m ga (dropL FM.key fs s.data.toList)) := by
  have c1 : w.cell? ⟨d, 1, none⟩ = some v := h.disk.cell 1
  have f1 := h.disk.frozen 1
  have CON := find_any h s hn
  rw [hg] at CON
  rw [dropL_some h.rising hg]
  obtain ⟨hm, hk0⟩ := get_mem hg
  obtain ⟨hlt, _⟩ := lbn_at h.rising hm
  rw [hk0] at hlt
  obtain ⟨g, cap, cur, rfl, rfl, hb, hnc, hcm, hcs, htake⟩ := h.arr.some_of (by omega)
  have hne : g ≠ d := fun e => h.d_ne_arr (by rw [e])
  have HD := Lib.hid h.disk
  have CON' := Lib.hid CON
  have hdlt := h.disk.lt
  generalize lbn fs s.data.toList = i at *
  obtain ⟨k, hk⟩ : ∃ k, fs.length = i + 1 + k := ⟨fs.length - (i + 1), by omega⟩
  have hmap : (fs.take i ++ fs.drop (i + 1)).map (fun f => ptrV f.p) = (fs.take i).map (fun f => ptrV f.p) ++ (fs.drop (i + 1)).map fun f => ptrV f.p := by simp
  have hlen : (fs.take i ++ fs.drop (i + 1)).length = i + k := by simp; omega
  rw [Nat.mul_one] at hcs htake
  have DEL := DelF.delete_any g i k cap cur ((fs.take i).map fun f => ptrV f.p) ((fs.drop (i + 1)).map fun f => ptrV f.p) (ptrV (fs[i]).p) w hb (by simp; omega) (by simp; omega) (by
    rw [← hk, htake]
    have hx : fs = fs.take i ++ fs[i] :: fs.drop (i + 1) := by rw [List.getElem_cons_drop, List.take_append_drop]
    conv => lhs; rw [hx]
    rw [List.map_append, List.map_cons]) (by omega) hcm hcs (ptr_one _) (by omega)
  rw [hk] at c1
  have DEL' := Lib.hid DEL
  have HN := Lib.hid hne
  have HL := Lib.hid hlen
  have HM := Lib.hid hmap
  clear CON h hb hcs htake hg hm hk0 DEL hne hlen hmap hnc hlt
  go_enter Try.func71, Try.ntmps71
  go_wp2_with (first
    | (go_at_call 107; refine CON'.out.mono ?_; rintro e w' ⟨rfl, rfl⟩)
    | (go_at_call 109; refine DEL'.out.mono ?_; rintro e w1 ⟨v', ob', rfl, h1, h2, h3⟩
       obtain ⟨a', c', rfl⟩ := h1.shape; have HD1 := Lib.hid (HD.out.upd h2 (fun e => HN.out (by cases e; rfl))); have H1 := Lib.hid h1; have H2 := Lib.hid h2; have H3 := Lib.hid h3; clear h1 h2 h3
       have c1' := HD1.out.cell 1
       have f1' := HD1.out.frozen 1))
  go_end0
  have hne : ob' ≠ some d := by
    rcases H3.out with h | h
    · rw [h]; intro e; exact HN.out (Option.some.inj e)
    · intro e; have := h d e; omega
  have hB : Blk (w1.setCell ⟨d, 1, none⟩ (.slice a' (i + k) c')) d (diskC m (.slice a' (i + k) c')) 103 := HD1.out.set 1 _
  refine ⟨rfl, .slice a' (i + k) c', ob', hB, ?_, ?_, H3.out⟩
  · rw [HL.out, HM.out]; exact H1.out.setOther hne _
  · exact ((Upd.refl (fun b => b = d ∨ some g = some b) w').trans H2.out (fun k hk => .inl (.inr hk))).setCell (p := ⟨d, 1, none⟩) (.inl (.inl rfl)) _
end Go.Proofs.Ytmfobcejnkakpaa
