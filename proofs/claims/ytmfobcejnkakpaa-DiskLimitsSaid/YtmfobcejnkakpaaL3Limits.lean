/- DiskLimits: all files together take no more than there is room for; what is cut or made anew gives room back. -/
import Derived.Test.YtmfobcejnkakpaaL3a
import Derived.Test.YtmfobcejnkakpaaOpen
import Derived.Test.YtmfobcejnkakpaaDiskC
import Derived.Deep.LoopGhost
import Derived.Deep.CutRange
namespace Go.Proofs.Ytmfobcejnkakpaa.Limits
set_option linter.unusedVariables false
set_option linter.unusedSimpArgs false
open Go.RowKit
set_option maxRecDepth 100000

/-- while the loop goes: two files, and what they take together -/
def Holds (W : World) (d : Nat) (L : Int) (u : Nat) (w : World) : Prop :=
  ∃ (m : MD) (S : Nat → Prop) (fa fb : MF), At W w d m S ∧ m.Calm L ∧ m.get [97] = some fa ∧ m.get [98] = some fb ∧ m.used = u ∧ u = fa.b.length + fb.b.length ∧ m.fs.length ≤ 2
theorem add_a {W : World} {d : Nat} {L : Int} {u : Nat} {m : MD} {x : Bs} {fa fb : MF} (h : m.Calm L) (ha : m.get [97] = some fa) (hb : m.get [98] = some fb) (hu : m.used = u) (h2 : u = fa.b.length + fb.b.length) (hl : m.fs.length ≤ 2) (nm : Bs) (hn : nm = [97] ∨ nm = [98]) (hx : (u : Int) + x.length ≤ L) :
    ∃ m', m.append nm x = (0, m') ∧ m'.fs.length ≤ 2 ∧ m'.used = u + x.length ∧ ∀ S' w', At W w' d m' S' → Holds W d L (u + x.length) w' := by
  rcases hn with rfl | rfl
  · obtain ⟨m', e, c, h3, h4, h5, h6⟩ := h.append (b := x) ha (by omega)
    exact ⟨m', e, by omega, by omega, fun S' w' hw => ⟨m', S', _, fb, hw, c, h4, by rw [h5 _ (by decide)]; exact hb, by omega, by simp; omega, by omega⟩⟩
  · obtain ⟨m', e, c, h3, h4, h5, h6⟩ := h.append (b := x) hb (by omega)
    exact ⟨m', e, by omega, by omega, fun S' w' hw => ⟨m', S', fa, _, hw, c, by rw [h5 _ (by decide)]; exact ha, h4, by omega, by simp; omega, by omega⟩⟩

set_option maxHeartbeats 4000000 in
theorem walk (W : World) (lim : Int) (hlim : -9223372036854775808 ≤ lim ∧ lim ≤ 9223372036854775807) (al : Option Addr) (rs : List Row3) (cl : Nat) (hl : Rd W 1 (.slice al rs.length cl) rs.length (rs.map rowV)) (hr : ∀ r ∈ rs, RowIn W r) :
    Calls Try.prog 5 #[.int .i64 lim, .slice al rs.length cl] W fun e w' => e = .returned (.bool true) ∧ Below W.heap.size W w' := by
  have HL := Lib.hid hl
  have HR := Lib.hid hr
  have hcl : rs.length ≤ cl ∧ cl ≤ maxLen := by
    obtain ⟨_, _, _, _, hv, h3, h4, _⟩ := hl
    simp only [Value.slice.injEq] at hv
    obtain ⟨_, _, rfl⟩ := hv
    exact ⟨h3, h4⟩
  unfold maxLen at hcl
  have hL := within_in lim 0 200 (by omega)
  have KW := fun w => within_any lim 0 200 w hlim (by omega) (by omega) (by omega)
  generalize within lim 0 200 = L at hL KW
  have KW := Lib.hid KW
  clear hl hr
  go_enter Try.func5, Try.ntmps5
  go_wp2_with fail
  refine (KW.out _).mono ?_
  rintro e w1 ⟨rfl, hw⟩
  obtain rfl := hw.symm
  go_wp2_with fail
  refine (new_at (Below.refl _ _) L (by omega) (by omega)).mono ?_
  rintro e w1 ⟨d, S1, rfl, h1⟩
  have H1 := Lib.hid h1
  clear h1
  obtain ⟨m1, e1, cm1, u1, g1, _, l1⟩ := (MD.Calm.new (L := L) (by omega) (by omega)).create (s := [97]) (by decide)
  obtain ⟨m2, e2, cm2, u2, g2, o2, l2⟩ := cm1.create (s := [98]) (by decide)
  have l1' : m1.fs.length ≤ 1 := l1
  have u1' : m1.used = 0 := by rw [MD.new_used] at u1; omega
  go_wp2_with fail
  refine (create_at H1.out (by simp [MD.new]) _ (show _ = ((0 : Int), m1) from e1)).mono ?_
  rintro e w2 ⟨rfl, S2, h2⟩
  have H2 := Lib.hid h2
  clear h2 H1
  go_wp2_with fail
  refine (create_at H2.out (by omega) _ (show _ = ((0 : Int), m2) from e2)).mono ?_
  rintro e w3 ⟨rfl, S3, h3⟩
  have hst : Holds W d L 0 w3 := ⟨m2, S3, _, _, h3, cm2, by rw [o2 _ (by decide)]; exact g1, g2, by omega, rfl, by omega⟩
  have HST := Lib.hid hst
  clear hst h3 H2 cm1 cm2 e1 e2 g1 g2 l1 l2 u1 u2 l1' u1' o2
  go_wp2_with fail
  go_loopg [8, 9] (min rs.length 20) (fun g s8 s9 wr => ∃ (k u : Nat), k ≤ min rs.length 20 ∧ g = min rs.length 20 - k ∧ s8 = .int .i64 u ∧ s9 = .int .i64 k ∧ Holds W d L u wr)
  case atStart => exact ⟨0, 0, by omega, by omega, rfl, rfl, HST.out⟩
  case round =>
    obtain ⟨k, u, hk, rfl, rfl, rfl, hh⟩ := hrel
    have HH := Lib.hid hh
    clear hh HST
    by_cases hlt : k < min rs.length 20
    · have q1 : (k : Int) < rs.length := by omega
      have q2 : (k : Int) < 20 := by omega
      have q3 : k < rs.length := by omega
      obtain ⟨bb, oo, rfl, hbb, _, _, hcell⟩ := HL.out.addr (by omega)
      have hrk := HR.out rs[k] (List.getElem_mem q3)
      have c1 := hcell k (rowV rs[k]) (by rw [List.getElem?_map, List.getElem?_eq_getElem q3]; rfl)
      clear hcell
      generalize rs[k] = r at c1 hrk
      obtain ⟨ax, x0, cx⟩ := r
      unfold RowIn rowV at hrk
      unfold rowV at c1
      simp only at c1 hrk
      obtain ⟨m, S, fa, fb, hat, hcm, ha, hb, hu, hsum, hle⟩ := HH.out
      rw [← hat.below.cell hbb] at c1
      have CX := Lib.hid (keepCut_rd hrk 40)
      have lx : (x0.take 40).length ≤ 40 := by simp; omega
      have KX := fun w (hw : Below W.heap.size W w) => keepCut_any (hrk.below hw) 40 (by omega)
      generalize x0.take 40 = x at CX lx KX
      have KX := Lib.hid KX
      have hroom := hcm.ok.room
      rw [hcm.limit] at hroom
      have HAT := Lib.hid hat
      obtain ⟨nm, hnm, hcm2⟩ : ∃ nm : ByteArray, (nm.data.toList = [97] ∨ nm.data.toList = [98]) ∧ (#[Value.string ⟨#[97]⟩, .string ⟨#[98]⟩] : Array Value)[k % 2]? = some (.string nm) := by
        rcases Nat.mod_two_eq_zero_or_one k with h | h
        · exact ⟨⟨#[97]⟩, .inl rfl, by rw [h]; rfl⟩
        · exact ⟨⟨#[98]⟩, .inr rfl, by rw [h]; rfl⟩
      have HSUM := Lib.hid hsum
      have HU := Lib.hid hu
      clear hat HH hsum hu
      go_wp2_with fail
      refine (KX.out _ HAT.out.below).mono ?_
      rintro e w4 ⟨rfl, rfl⟩
      go_wp2_with fail
      have HA2 := Lib.hid (HAT.out.alloc (.cells #[Value.string ⟨#[97]⟩, .string ⟨#[98]⟩] 9))
      by_cases hfit : (u : Int) + x.length ≤ L
      · obtain ⟨m', e', hl', hu', hst⟩ := add_a (W := W) (d := d) hcm ha hb HU.out HSUM.out hle nm.data.toList hnm hfit
        have HST := Lib.hid hst
        have E' := Lib.hid e'
        have HU' := Lib.hid hu'
        have hu0 : (u : Int) ≤ 200 := by omega
        clear hst e' hcm ha hb hnm hcm2 hu'
        refine (append_at HA2.out (by omega) _ _ _ (CX.out.below HA2.out.below) (sep_old HAT.out CX.out) E'.out).mono ?_
        rintro e w5 ⟨rfl, S5, h5⟩
        have H5 := Lib.hid h5
        clear h5
        go_wp2_with fail
        refine (used_rep H5.out.rep (by omega)).mono ?_
        rintro e w6 ⟨rfl, hw⟩
        obtain rfl := hw.symm
        rw [HU'.out]
        go_wp2_with fail
        go_roundg (min rs.length 20 - (k + 1))
        case measure => omega
        case rel => exact ⟨k + 1, u + x.length, by omega, by omega, by go_num, by go_num, HST.out _ _ H5.out⟩
      · obtain ⟨e', hne⟩ : ∃ f, m.get nm.data.toList = some f := by
          rcases hnm with h | h
          · exact ⟨_, by rw [h]; exact ha⟩
          · exact ⟨_, by rw [h]; exact hb⟩
        have E' := Lib.hid (hcm.append_full (b := x) hne (by rw [HU.out]; omega))
        have hst : ∀ S' w', At W w' d m S' → Holds W d L u w' := fun S' w' hw => ⟨m, S', fa, fb, hw, hcm, ha, hb, HU.out, HSUM.out, hle⟩
        have HST := Lib.hid hst
        have hu0 : (u : Int) ≤ 200 := by have := HU.out; omega
        clear hst hcm ha hb hnm hcm2 hne
        refine (append_at HA2.out (by omega) _ _ _ (CX.out.below HA2.out.below) (sep_old HAT.out CX.out) E'.out).mono ?_
        rintro e w5 ⟨rfl, S5, h5⟩
        have H5 := Lib.hid h5
        clear h5
        go_wp2_with fail
        refine (used_rep H5.out.rep (by omega)).mono ?_
        rintro e w6 ⟨rfl, hw⟩
        obtain rfl := hw.symm
        rw [HU.out]
        go_wp2_with fail
        go_roundg (min rs.length 20 - (k + 1))
        case measure => omega
        case rel => exact ⟨k + 1, u, by omega, by omega, rfl, by go_num, HST.out _ _ H5.out⟩
    · obtain ⟨m, S, fa, fb, hat, hcm, ha, hb, hu, hsum, hle⟩ := HH.out
      have hroom := hcm.ok.room
      rw [hcm.limit] at hroom
      obtain ⟨m1, e1, cm1, u1, g1, o1, l1⟩ := hcm.create (s := [97]) (by decide)
      have hsz : m.size [97] = fa.b.length := by unfold MD.size; rw [ha]
      have hb1 : m1.get [98] = some fb := by rw [o1 _ (by decide)]; exact hb
      have hu1 : m1.used = fb.b.length := by omega
      have e2 := MD.grow_less (m := m1) (n := (fb.b.length : Int) - 1) (by omega)
      obtain ⟨e3, cm3⟩ := cm1.grow (n := (fb.b.length : Int)) (by omega) (by omega)
      have e4 := cm3.append_full (b := [1]) (f := ⟨[97], [], 0⟩) g1 (by simp; show _ < ((m1.used : Int)) + 1; omega)
      have hb3 : ({ m1 with limit := (fb.b.length : Int) } : MD).get [98] = some fb := hb1
      have hu3 : ({ m1 with limit := (fb.b.length : Int) } : MD).used = fb.b.length := hu1
      have hl3 : ({ m1 with limit := (fb.b.length : Int) } : MD).fs.length ≤ 3 := by show m1.fs.length ≤ 3; omega
      generalize ({ m1 with limit := (fb.b.length : Int) } : MD) = m3 at *
      obtain ⟨m4, e5, cm4, u4, _, _, l4⟩ := cm3.cut hb3 0 (by omega)
      have hu4 : m4.used = 0 := by omega
      have HAT := Lib.hid hat
      have E1 := Lib.hid e1
      have E2 := Lib.hid e2
      have E3 := Lib.hid e3
      have E4 := Lib.hid e4
      have E5 := Lib.hid e5
      have U1 := Lib.hid hu1
      have U4 := Lib.hid hu4
      have HA := Lib.hid ha
      have hul : (u : Int) = fa.b.length + fb.b.length := by omega
      have hfb : (fb.b.length : Int) ≤ 200 := by omega
      have hfa : (fa.b.length : Int) ≤ 200 := by omega
      generalize hna : fa.b.length = na at *
      have HNA := Lib.hid hna
      generalize fb.b.length = nb at *
      obtain rfl : u = na + nb := by omega
      clear hat HH hna e1 e2 e3 e4 e5 hu1 hu4 ha hcm cm1 cm3 cm4 g1 o1 hb hu hsum hsz hb1 hb3 hu3 u1 u4
      have hs1 : (na : Int) + nb - na = nb := by omega
      clear hul hroom
      rcases (show (¬ (k : Int) < rs.length) ∨ ((k : Int) < rs.length ∧ ¬ (k : Int) < 20) by omega) with q1 | ⟨q1, q2⟩
      all_goals
        go_wp2_with fail
        refine (read_some HAT.out (by omega) _ (show _ = some fa from HA.out)).mono ?_
        rintro e w5 ⟨v5, ob5, rfl, h5, hb5, ho5⟩
        rw [HNA.out] at h5
        obtain ⟨a5, c5, rfl⟩ := h5.shape
        have H5 := Lib.hid (HAT.out.mem hb5)
        clear h5 hb5 ho5
        go_wp2_with fail
        refine (create_at H5.out (by omega) _ E1.out).mono ?_
        rintro e w6 ⟨rfl, S6, h6⟩
        have H6 := Lib.hid h6
        clear h6
        go_wp2_with fail
        refine (used_rep H6.out.rep (by omega)).mono ?_
        rintro e w7 ⟨rfl, hw⟩
        obtain rfl := hw.symm
        rw [U1.out]
        go_wp2_with fail
        refine (used_rep H6.out.rep (by omega)).mono ?_
        rintro e w7 ⟨rfl, hw⟩
        obtain rfl := hw.symm
        rw [U1.out]
        go_wp2_with fail
        refine (grow_at H6.out (by omega) _ E2.out).mono ?_
        rintro e w7 ⟨rfl, S7, h7⟩
        have H7 := Lib.hid h7
        clear h7
        go_wp2_with fail
        refine (used_rep H7.out.rep (by omega)).mono ?_
        rintro e w8 ⟨rfl, hw⟩
        obtain rfl := hw.symm
        rw [U1.out]
        go_wp2_with fail
        refine (grow_at H7.out (by omega) _ E3.out).mono ?_
        rintro e w8 ⟨rfl, S8, h8⟩
        have H8 := Lib.hid h8
        clear h8
        go_wp2_with fail
        refine (append_at (H8.out.alloc _) (by omega) _ _ [1] (rd_lit _ [1] _ (by decide)) (fun _ g hg hs => by cases hg; exact absurd (H8.out.lt hs) (Nat.lt_irrefl _)) E4.out).mono ?_
        rintro e w9 ⟨rfl, S9, h9⟩
        have H9 := Lib.hid h9
        clear h9
        go_wp2_with fail
        refine (cut_at H9.out (by omega) _ _ E5.out).mono ?_
        rintro e w10 ⟨rfl, S10, h10⟩
        have H10 := Lib.hid h10
        clear h10
        go_wp2_with fail
        refine (used_rep H10.out.rep (by omega)).mono ?_
        rintro e w8 ⟨rfl, hw⟩
        obtain rfl := hw.symm
        rw [U4.out]
        go_wp2_with fail
        refine (known3_any W _ H10.out.below).mono ?_
        rintro e w11 ⟨rfl, hb11⟩
        go_wp2_with fail
        go_ret
        exact ⟨rfl, hb11⟩
end Go.Proofs.Ytmfobcejnkakpaa.Limits
