/- DiskKeeps: what was synced stands behind any crash. -/
import Derived.Test.YtmfobcejnkakpaaL3a
import Derived.Test.YtmfobcejnkakpaaRow
import Derived.Deep.RegionHeldLaw
import Derived.Deep.CutRange
namespace Go.Proofs.Ytmfobcejnkakpaa.Keeps
open Go.RowKit
set_option maxRecDepth 100000

def m1 : MD := ⟨1000, 0, false, [⟨[120], [], 0⟩]⟩
def m2 (a : Bs) : MD := ⟨1000, 0, false, [⟨[120], a, 0⟩]⟩
def m3 (a : Bs) : MD := ⟨1000, 0, false, [⟨[120], a, a.length⟩]⟩
def m4 (a b : Bs) : MD := ⟨1000, 0, false, [⟨[120], a ++ b, a.length⟩]⟩
def m5 (a b : Bs) : MD := ⟨1000, 0, false, [⟨[120], a ++ b, a.length⟩, ⟨[121], [], 0⟩]⟩
def m6 (a b c : Bs) : MD := ⟨1000, 0, false, [⟨[120], a ++ b, a.length⟩, ⟨[121], c, 0⟩]⟩
def m7 (a b c : Bs) : MD := ⟨1000, 0, false, [⟨[121], c, 0⟩, ⟨[122], a ++ b, a.length⟩]⟩
def m8 (a b c : Bs) (k : Int) : MD := ⟨1000, 0, false, [⟨[121], c.take (min k.toNat c.length), min k.toNat c.length⟩, ⟨[122], a ++ b.take (min k.toNat b.length), a.length + min k.toNat b.length⟩]⟩

theorem e1 : (MD.new 1000).create [120] = (0, m1) := rfl
theorem e2 (a : Bs) (h : a.length ≤ 100) : m1.append [120] a = (0, m2 a) := by
  simp [MD.append, MD.get, getL, m1, m2, MD.used, MD.count, setL]
  omega
theorem e3 (a : Bs) : (m2 a).sync [120] = (0, m3 a) := by
  simp [MD.sync, MD.get, getL, m2, m3, MD.count, setL]
theorem e4 (a b : Bs) (h : a.length ≤ 100) (h2 : b.length ≤ 100) : (m3 a).append [120] b = (0, m4 a b) := by
  simp [MD.append, MD.get, getL, m3, m4, MD.used, MD.count, setL]
  omega
theorem e5 (a b : Bs) : (m4 a b).create [121] = (0, m5 a b) := by
  simp [MD.create, m4, m5, MD.count, putL, MD.right, show bl [120] [121] = true from rfl, show bl [121] [120] = false from rfl]
theorem e6 (a b c : Bs) (h : a.length ≤ 100) (h2 : b.length ≤ 100) (h3 : c.length ≤ 100) : (m5 a b).append [121] c = (0, m6 a b c) := by
  simp [MD.append, MD.get, getL, m5, m6, MD.used, MD.count, setL]
  omega
theorem e7 (a b c : Bs) : (m6 a b c).rename [120] [122] = (0, m7 a b c) := by
  simp [MD.rename, MD.get, getL, m6, m7, MD.count, putL, dropL, MD.right, show bl [121] [122] = true from rfl, show bl [122] [121] = false from rfl]
theorem e8 (a b c : Bs) (k : Int) : (m7 a b c).crash k = m8 a b c k := by
  simp [MD.crash, m7, m8, MD.kept, List.take_append]
  exact List.take_of_length_le (by omega)

set_option maxHeartbeats 2000000 in
theorem walk (W : World) (aa ab ac : Option Addr) (ca cb cc : Nat) (a0 b0 c0 : Bs) (ha : Rd W 1 (.slice aa a0.length ca) a0.length (a0.map bv)) (hb : Rd W 1 (.slice ab b0.length cb) b0.length (b0.map bv)) (hc : Rd W 1 (.slice ac c0.length cc) c0.length (c0.map bv))
    (keep : Int) (hk : -9223372036854775808 ≤ keep ∧ keep ≤ 9223372036854775807) :
    Calls Try.prog 4 #[.slice aa a0.length ca, .slice ab b0.length cb, .slice ac c0.length cc, .int .i64 keep] W fun e w' => e = .returned (.bool true) ∧ Below W.heap.size W w' := by
  have CA := Lib.hid (keepCut_rd ha 100)
  have CB := Lib.hid (keepCut_rd hb 100)
  have CC := Lib.hid (keepCut_rd hc 100)
  have la : (a0.take 100).length ≤ 100 := by simp; omega
  have lb : (b0.take 100).length ≤ 100 := by simp; omega
  have lc : (c0.take 100).length ≤ 100 := by simp; omega
  have KA := fun w (hw : Below W.heap.size W w) => keepCut_any (ha.below hw) 100 (by omega)
  have KB := fun w (hw : Below W.heap.size W w) => keepCut_any (hb.below hw) 100 (by omega)
  have KC := fun w (hw : Below W.heap.size W w) => keepCut_any (hc.below hw) 100 (by omega)
  generalize a0.take 100 = a at CA la KA
  generalize b0.take 100 = b at CB lb KB
  generalize c0.take 100 = c at CC lc KC
  have KA := Lib.hid KA
  have KB := Lib.hid KB
  have KC := Lib.hid KC
  obtain ⟨hk0, hk1⟩ := hk
  go_enter Try.func4, Try.ntmps4
  go_wp2_with fail
  refine (new_at (Below.refl _ _) 1000 (by omega) (by omega)).mono ?_
  rintro e w1 ⟨d, S1, rfl, h1⟩
  have H1 := Lib.hid h1
  clear h1
  go_wp2_with fail
  refine (KA.out _ H1.out.below).mono ?_
  rintro e w' ⟨rfl, rfl⟩
  go_wp2_with fail
  refine (KB.out _ H1.out.below).mono ?_
  rintro e w' ⟨rfl, rfl⟩
  go_wp2_with fail
  refine (KC.out _ H1.out.below).mono ?_
  rintro e w' ⟨rfl, rfl⟩
  go_wp2_with fail
  refine (create_at H1.out (Nat.le_of_ble_eq_true rfl) _ (show _ = ((0 : Int), m1) from e1)).mono ?_
  rintro e w2 ⟨rfl, S2, h2⟩
  have H2 := Lib.hid h2
  clear h2 H1
  go_wp2_with fail
  refine (append_at H2.out (Nat.le_of_ble_eq_true rfl) _ _ _ (CA.out.below H2.out.below) (sep_old H2.out CA.out) (show _ = ((0 : Int), m2 _) from e2 _ la)).mono ?_
  rintro e w3 ⟨rfl, S3, h3⟩
  have H3 := Lib.hid h3
  clear h3 H2
  go_wp2_with fail
  refine (sync_at H3.out (Nat.le_of_ble_eq_true rfl) _ (show _ = ((0 : Int), m3 _) from e3 _)).mono ?_
  rintro e w4 ⟨rfl, S4, h4⟩
  have H4 := Lib.hid h4
  clear h4 H3
  go_wp2_with fail
  refine (append_at H4.out (Nat.le_of_ble_eq_true rfl) _ _ _ (CB.out.below H4.out.below) (sep_old H4.out CB.out) (show _ = ((0 : Int), m4 _ _) from e4 _ _ la lb)).mono ?_
  rintro e w5 ⟨rfl, S5, h5⟩
  have H5 := Lib.hid h5
  clear h5 H4
  go_wp2_with fail
  refine (create_at H5.out (Nat.le_of_ble_eq_true rfl) _ (show _ = ((0 : Int), m5 _ _) from e5 _ _)).mono ?_
  rintro e w6 ⟨rfl, S6, h6⟩
  have H6 := Lib.hid h6
  clear h6 H5
  go_wp2_with fail
  refine (append_at H6.out (Nat.le_of_ble_eq_true rfl) _ _ _ (CC.out.below H6.out.below) (sep_old H6.out CC.out) (show _ = ((0 : Int), m6 _ _ _) from e6 _ _ _ la lb lc)).mono ?_
  rintro e w7 ⟨rfl, S7, h7⟩
  have H7 := Lib.hid h7
  clear h7 H6
  go_wp2_with fail
  refine (rename_at H7.out (Nat.le_of_ble_eq_true rfl) _ _ (show _ = ((0 : Int), m7 _ _ _) from e7 _ _ _)).mono ?_
  rintro e w8 ⟨rfl, S8, h8⟩
  have H8 := Lib.hid h8
  clear h8 H7
  go_wp2_with fail
  refine (crash_at H8.out (Nat.le_of_ble_eq_true rfl) keep hk0 hk1 (show _ = m8 _ _ _ _ from e8 _ _ _ _)).mono ?_
  rintro e w9 ⟨rfl, S9, h9⟩
  have H9 := Lib.hid h9
  clear h9 H8
  go_wp2_with fail
  obtain ⟨X, hX⟩ : ∃ X, Hid (X = a ++ b.take (min keep.toNat b.length)) := ⟨_, Lib.hid rfl⟩
  obtain ⟨Y, hY⟩ : ∃ Y, Hid (Y = c.take (min keep.toNat c.length)) := ⟨_, Lib.hid rfl⟩
  refine (read_some (f := ⟨[122], X, a.length + min keep.toNat b.length⟩) H9.out (Nat.le_of_ble_eq_true rfl) _ (by rw [hX.out]; rfl)).mono ?_
  rintro e w10 ⟨v10, ob10, rfl, h10, hb10, ho10⟩
  have H10 := Lib.hid (H9.out.mem hb10)
  have O10 := Lib.hid h10
  have hob10 := Lib.hid ho10
  obtain ⟨a10, c10, rfl⟩ := h10.shape
  clear h10 hb10 ho10 H9
  go_wp2_with fail
  refine (read_some (f := ⟨[121], Y, min keep.toNat c.length⟩) H10.out (Nat.le_of_ble_eq_true rfl) _ (by rw [hY.out]; rfl)).mono ?_
  rintro e w11 ⟨v11, ob11, rfl, h11, hb11, ho11⟩
  have H11 := Lib.hid (H10.out.mem hb11)
  have O11 := Lib.hid h11
  have R10 := Lib.hid (O10.out.rd.below hb11)
  obtain ⟨a11, c11, rfl⟩ := h11.shape
  clear h11 hb11 ho11 H10 O10
  go_wp2_with fail
  refine (read_none H11.out (Nat.le_of_ble_eq_true rfl) _ rfl).mono ?_
  rintro e w12 ⟨rfl, rfl⟩
  go_wp2_with fail
  refine (within_any keep 0 b.length _ ⟨hk0, hk1⟩ (by omega) (by omega) (by omega)).mono ?_
  rintro e w12 ⟨rfl, rfl⟩
  obtain ⟨n, hn⟩ : ∃ n : Nat, within keep 0 b.length = n := ⟨_, (Int.toNat_of_nonneg (within_in keep 0 b.length (by omega)).1).symm⟩
  rw [hn]
  have hn' := within_in keep 0 b.length (by omega)
  rw [hn] at hn'
  have hn'' : 0 ≤ keep → keep ≤ b.length → n = min keep.toNat b.length := fun h1 h2 => by rw [within_id h1 h2] at hn; omega
  clear hn
  go_wp2_with fail
  refine (within_any keep 0 c.length _ ⟨hk0, hk1⟩ (by omega) (by omega) (by omega)).mono ?_
  rintro e w12 ⟨rfl, rfl⟩
  obtain ⟨m, hm⟩ : ∃ m : Nat, within keep 0 c.length = m := ⟨_, (Int.toNat_of_nonneg (within_in keep 0 c.length (by omega)).1).symm⟩
  rw [hm]
  have hm' := within_in keep 0 c.length (by omega)
  rw [hm] at hm'
  have hm'' : 0 ≤ keep → keep ≤ c.length → m = min keep.toNat c.length := fun h1 h2 => by rw [within_id h1 h2] at hm; omega
  clear hm
  have hcb : b.length ≤ cb ∧ cb ≤ maxLen := by
    obtain ⟨_, _, _, _, hv, h3, h4, _⟩ := CB.out
    simp only [Value.slice.injEq] at hv
    obtain ⟨_, _, rfl⟩ := hv
    exact ⟨h3, h4⟩
  have hcc : c.length ≤ cc ∧ cc ≤ maxLen := by
    obtain ⟨_, _, _, _, hv, h3, h4, _⟩ := CC.out
    simp only [Value.slice.injEq] at hv
    obtain ⟨_, _, rfl⟩ := hv
    exact ⟨h3, h4⟩
  unfold maxLen at hcb hcc
  clear KA KB KC
  go_upto_if 100 with fail
  go_cut [17, 18] from 113 (fun s17 s18 wx => wx = w12 ∧ ∃ n1 m1 : Nat, s17 = .int .i64 n1 ∧ s18 = .int .i64 m1 ∧ (keep ≤ b.length → n1 = min keep.toNat b.length) ∧ (keep ≤ c.length → m1 = min keep.toNat c.length))
  case first =>
    go_wp2_with fail
    all_goals
      go_meet
      case rel => first | exact ⟨rfl, 0, 0, rfl, rfl, fun _ => by omega, fun _ => by omega⟩ | exact ⟨rfl, n, m, rfl, rfl, fun h => hn'' (by omega) h, fun h => hm'' (by omega) h⟩
  case rest =>
  obtain ⟨rfl, n1, m1, rfl, rfl, hn1, hm1⟩ := hcut
  clear hn'' hm'' hn' hm'
  go_upto_if 104 with fail
  go_cut [17] from 113 (fun s17 wx => wx = wc ∧ s17 = .int .i64 (min keep.toNat b.length : Nat))
  case first =>
    go_wp2_with fail
    all_goals
      go_meet
      case rel => first | exact ⟨rfl, by rw [hn1 (by omega)]⟩ | exact ⟨rfl, by rw [show min keep.toNat b.length = b.length by omega]⟩
  case rest =>
  obtain ⟨rfl, rfl⟩ := hcut
  go_upto_if 110 with fail
  go_cut [18] from 113 (fun s18 wx => wx = wc ∧ s18 = .int .i64 (min keep.toNat c.length : Nat))
  case first =>
    go_wp2_with fail
    all_goals
      go_meet
      case rel => first | exact ⟨rfl, by rw [hm1 (by omega)]⟩ | exact ⟨rfl, by rw [show min keep.toNat c.length = c.length by omega]⟩
  case rest =>
  obtain ⟨rfl, rfl⟩ := hcut
  clear hn1 hm1
  have hN : min keep.toNat b.length ≤ b.length := Nat.min_le_right ..
  have hM : min keep.toNat c.length ≤ c.length := Nat.min_le_right ..
  have RB := (CB.out.below H11.out.below).takeTo hN
  have RC := (CC.out.below H11.out.below).takeTo hM
  rw [← List.map_take] at RB RC
  rw [← hY.out] at RC
  generalize min keep.toNat b.length = N at *
  generalize min keep.toNat c.length = M at *
  have hYl : Y.length = M := by rw [hY.out]; simp; omega
  rw [← hYl] at RC hM
  have hYl := hYl.symm
  subst hYl
  have RB := Lib.hid RB
  have hS : ∀ w', Below wc.heap.size wc w' → Below wc.heap.size wc w' ∧ (convert 22 9 (.slice a10 X.length c10)).run Try.prog w' = .ok (.string (bsv X)) w' ∧ (convert 22 9 (.slice a11 Y.length c11)).run Try.prog w' = .ok (.string (bsv Y)) w' ∧ (convert 22 9 (.slice ac Y.length cc)).run Try.prog w' = .ok (.string (bsv Y)) w' := fun w' hb => ⟨hb, convStr (R10.out.below hb), convStr (O11.out.rd.below hb), convStr (RC.below hb)⟩
  have hS := Lib.hid hS
  have q1 : (0 : Int) ≤ N := by omega
  have q2 : (N : Int) ≤ cb := by omega
  have q3 : (0 : Int) ≤ Y.length := by omega
  have q4 : (Y.length : Int) ≤ cc := by omega
  go_upto_region 17 with fail
  have hb1 : Below wc.heap.size wc (wc.alloc (.cells #[] 5)).drew := ((Below.refl _ _).alloc (Nat.le_refl _) _).drew
  have hb1 := Lib.hid hb1
  have OA := Lib.hid (own_void (w := (wc.alloc (.cells #[] 5)).drew) (b := wc.heap.size) (e := 5) (heap_alloc_new wc _))
  have RA := Lib.hid (CA.out.below H11.out.below)
  have one1 : ∀ u ∈ a.map bv, u.oneCell' = true := by intro u hu; obtain ⟨x, _, rfl⟩ := List.mem_map.1 hu; rfl
  have one2 : ∀ u ∈ (b.take N).map bv, u.oneCell' = true := by intro u hu; obtain ⟨x, _, rfl⟩ := List.mem_map.1 hu; rfl
  have one1 := Lib.hid one1
  have one2 := Lib.hid one2
  go_region_held_law (fun w' => Below wc.heap.size wc w' ∧ (convert 22 9 (.slice a10 X.length c10)).run Try.prog w' = .ok (.string (bsv X)) w' ∧ (convert 22 9 (.slice a11 Y.length c11)).run Try.prog w' = .ok (.string (bsv Y)) w' ∧ (convert 22 9 (.slice ac Y.length cc)).run Try.prog w' = .ok (.string (bsv Y)) w') (first | exact hS.out _ (Below.refl _ _).drew | exact hS.out _ hb1.out | exact hS.out _ (by assumption))
    (first
      | (refine step_of_wp (by rfl) (wp_append (.tmp 124) (.tmp 125) 22 rfl 5 1 1 _ Try.underlying22 infoU8 rfl (by decide) 0 [] _ OA.out a.length (a.map bv) (RA.out.below hb1.out) one1.out (by unfold maxLen; omega) (by omega) ?_)
         intro v1 w1 ob1 h2 h3 h4
         rw [Nat.zero_add] at h2
         have hb2 := below_upd hb1.out h3 (fun b hb => by cases hb; exact Nat.le_refl _)
         have O2 := Lib.hid h2
         have F2 := Lib.hid (fresh_of (n := wc.heap.size) h4 (fun g hg => by cases hg; exact Nat.le_refl _) hb1.out.size)
         obtain ⟨a2, c2, rfl⟩ := h2.shape
         clear h2 h3 h4)
      | (go_at_call 27
         refine (known3_any wc _ (by assumption)).mono ?_
         rintro e w4 ⟨rfl, hb4⟩)
      | (refine step_of_wp (by rfl) (wp_append (.tmp 126) (.tmp 129) 22 rfl 5 1 1 _ Try.underlying22 infoU8 rfl (by decide) a.length _ _ O2.out N ((b.take N).map bv) (RB.out.below hb2) one2.out (by unfold maxLen; omega) (by omega) ?_)
         intro v1 w1 ob1 h2 h3 h4
         have hb3 := below_upd hb2 h3 F2.out
         have h5 : Rd w1 1 v1 X.length (X.map bv) := by
           have e1 : X.length = a.length + N := by rw [hX.out, List.length_append, List.length_take]; omega
           have e2 : X.map bv = a.map bv ++ (b.take N).map bv := by rw [hX.out, List.map_append]
           rw [e1, e2]
           exact h2.rd
         obtain ⟨a3, c3, rfl⟩ := h2.shape
         have q5 := convStr h5
         clear h2 h3 h4 h5))
  go_wp2_with fail
  go_ret
  exact ⟨rfl, H11.out.below.trans (hb4.mono H11.out.below.size)⟩
end Go.Proofs.Ytmfobcejnkakpaa.Keeps
