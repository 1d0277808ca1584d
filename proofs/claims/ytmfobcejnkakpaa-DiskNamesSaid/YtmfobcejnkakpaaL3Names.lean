/- DiskNames: a file that is renamed again and again has its bytes. -/
import Derived.Test.YtmfobcejnkakpaaL3a
import Derived.Test.YtmfobcejnkakpaaRow
import Derived.Test.YtmfobcejnkakpaaDiskC
import Derived.Deep.LoopGhost
import Derived.Deep.CutRange
namespace Go.Proofs.Ytmfobcejnkakpaa.Names
open Go.RowKit
set_option maxRecDepth 100000

theorem rune_eq (q : Nat) (hq : q ≤ 9) : ∃ s : ByteArray, (∀ w, (convert 21 9 (.int .i32 (48 + (q : Int)))).run Try.prog w = .ok (.string s) w) ∧ s.size = 1 := by
  have : q = 0 ∨ q = 1 ∨ q = 2 ∨ q = 3 ∨ q = 4 ∨ q = 5 ∨ q = 6 ∨ q = 7 ∨ q = 8 ∨ q = 9 := by omega
  rcases this with rfl | rfl | rfl | rfl | rfl | rfl | rfl | rfl | rfl | rfl
  all_goals exact ⟨_, fun w => rfl, rfl⟩

/-- while the loop goes: the file that was renamed has its bytes -/
def Holds (W : World) (d : Nat) (b : Bs) (u l : Nat) (nw : ByteArray) (w : World) : Prop :=
  ∃ (m : MD) (S : Nat → Prop) (f : MF), At W w d m S ∧ m.Calm 1000 ∧ m.get nw.data.toList = some f ∧ f.b = b ∧ m.used ≤ u ∧ m.fs.length ≤ l
def MidPost (W : World) (d : Nat) (b : Bs) (k : Nat) (nw : ByteArray) (s : Value) (w : World) : Prop := s = .bool false ∧ Holds W d b (100 + 5 * (k + 1)) (1 + 2 * (k + 1)) nw w
theorem Holds.more {W w : World} {d : Nat} {b : Bs} {u l u' l' : Nat} {nw : ByteArray} (h : Holds W d b u l nw w) (h1 : u ≤ u') (h2 : l ≤ l') : Holds W d b u' l' nw w := by
  obtain ⟨m, S, f, h3, h4, h5, h6, h7, h8⟩ := h
  exact ⟨m, S, f, h3, h4, h5, h6, by omega, by omega⟩
theorem toList_inj {a b : ByteArray} (h : a.toList = b.toList) : a = b := by
  rw [ByteArray.toList_eq, ByteArray.toList_eq] at h
  cases a with | mk x => cases b with | mk y => congr 1; exact Array.toList_inj.1 h
theorem size_toList (s : ByteArray) : s.data.toList.length = s.size := rfl

set_option maxHeartbeats 4000000 in
theorem walk (W : World) (ab : Option Addr) (b0 : Bs) (cb : Nat) (hb : Rd W 1 (.slice ab b0.length cb) b0.length (b0.map bv)) (al : Option Addr) (zs : List Int) (cl : Nat) (hl : Rd W 1 (.slice al zs.length cl) zs.length (zs.map (.int .i64)))
    (hz : ∀ z ∈ zs, -9223372036854775808 ≤ z ∧ z ≤ 9223372036854775807) :
    Calls Try.prog 3 #[.slice ab b0.length cb, .slice al zs.length cl] W fun e w' => e = .returned (.bool true) ∧ Below W.heap.size W w' := by
  have CB := Lib.hid (keepCut_rd hb 100)
  have lb : (b0.take 100).length ≤ 100 := by simp; omega
  have KB := fun w (hw : Below W.heap.size W w) => keepCut_any (hb.below hw) 100 (by omega)
  generalize b0.take 100 = b at CB lb KB
  have KB := Lib.hid KB
  have HL := Lib.hid hl
  have HZ := Lib.hid hz
  have hcl : zs.length ≤ cl ∧ cl ≤ maxLen := by
    obtain ⟨_, _, _, _, hv, h3, h4, _⟩ := hl
    simp only [Value.slice.injEq] at hv
    obtain ⟨_, _, rfl⟩ := hv
    exact ⟨h3, h4⟩
  unfold maxLen at hcl
  clear hl hz
  have kc := fun (w : World) (C : Array Value) (n c : Nat) => Lib.run_convert_bytes_const (P := Try.prog) w 22 5 C n c Try.underlying22 Try.underlying5
  go_enter Try.func3, Try.ntmps3
  go_wp2_with fail
  refine (new_at (Below.refl _ _) 1000 (by omega) (by omega)).mono ?_
  rintro e w1 ⟨d, S1, rfl, h1⟩
  have H1 := Lib.hid h1
  clear h1
  go_wp2_with fail
  refine (KB.out _ H1.out.below).mono ?_
  rintro e w' ⟨rfl, rfl⟩
  go_wp2_with fail
  have cm0 := MD.Calm.new (L := 1000) (by omega) (by omega)
  obtain ⟨m1, e1, cm1, u1, g1, _, l1⟩ := cm0.create (s := [102, 48]) (by decide)
  have CM0 := Lib.hid cm0
  refine (create_at H1.out (by decide) _ (show _ = ((0 : Int), m1) from e1)).mono ?_
  rintro e w2 ⟨rfl, S2, h2⟩
  have H2 := Lib.hid h2
  clear h2 H1
  have l1' : m1.fs.length ≤ 1 := l1
  have u1' : m1.used = 0 := by rw [MD.new_used] at u1; omega
  obtain ⟨m2, e2, cm2, u2, g2, _, l2⟩ := cm1.append (b := b) g1 (by omega)
  go_wp2_with fail
  refine (append_at H2.out (by omega) _ _ _ (CB.out.below H2.out.below) (sep_old H2.out CB.out) (show _ = ((0 : Int), m2) from e2)).mono ?_
  rintro e w3 ⟨rfl, S3, h3⟩
  have hst : Holds W d b 100 1 ⟨#[102, 48]⟩ w3 := ⟨m2, S3, _, h3, cm2, g2, rfl, by omega, by omega⟩
  have HST := Lib.hid hst
  clear hst h3 H2 cm0 CM0 cm1 cm2 e1 e2 g1 g2 l1 l2 u1 u2 l1' u1'
  go_wp2_with fail
  go_loopg [7, 8] (min zs.length 20) (fun g s7 s8 wr => ∃ (k : Nat) (nw : ByteArray), k ≤ min zs.length 20 ∧ g = min zs.length 20 - k ∧ s7 = .string nw ∧ s8 = .int .i64 k ∧ Holds W d b (100 + 5 * k) (1 + 2 * k) nw wr)
  case atStart => exact ⟨0, _, by omega, by omega, rfl, rfl, HST.out⟩
  case round =>
    obtain ⟨k, nw, hk, rfl, rfl, rfl, hh⟩ := hrel
    have HH := Lib.hid hh
    clear hh HST
    by_cases hlt : k < min zs.length 20
    · have q1 : (k : Int) < zs.length := by omega
      have q2 : (k : Int) < 20 := by omega
      have q3 : k < zs.length := by omega
      obtain ⟨bb, oo, rfl, hbb, _, _, hcell⟩ := HL.out.addr (by omega)
      have hzk := HZ.out zs[k] (List.getElem_mem q3)
      have c1 := hcell k (.int .i64 zs[k]) (by rw [List.getElem?_map, List.getElem?_eq_getElem q3]; rfl)
      clear hcell
      generalize zs[k] = z at c1 hzk
      obtain ⟨m, S, f, hat, hcm, hg, hfb, hu, hle⟩ := HH.out
      rw [← hat.below.cell hbb] at c1
      have hw9 := within_in z 0 9 (by omega)
      obtain ⟨q, hq⟩ : ∃ q : Nat, within z 0 9 = q := ⟨_, (Int.toNat_of_nonneg hw9.1).symm⟩
      rw [hq] at hw9
      obtain ⟨s, hs, hs1⟩ := rune_eq q (by omega)
      have KW := fun w => within_any z 0 9 w hzk (by omega) (by omega) (by omega)
      rw [hq] at KW
      have KW := Lib.hid KW
      clear hq hat hcm hg hfb hu hle
      go_wp2_with fail
      refine (KW.out _).mono ?_
      rintro e w4 ⟨rfl, rfl⟩
      go_upto_region 10 with fail
      obtain ⟨nx, hnx⟩ : ∃ nx, Hid (nx = (⟨#[102]⟩ : ByteArray) ++ s) := ⟨_, Lib.hid rfl⟩
      rw [← hnx.out]
      have hsz : nx.data.toList.length = 2 := by rw [hnx.out, size_toList, ByteArray.size_append, hs1]; rfl
      have hr : MD.right nx.data.toList = true := by simp only [MD.right, hsz]; decide
      have HR := Lib.hid hr
      clear hs hs1 hsz hr hnx KW c1
      go_cut [77] from 37 to 111 (fun s77 wx => MidPost W d b k nw s77 wx)
      case first =>
        by_cases hE : nx = nw
        · subst hE
          go_wp2_with fail
          all_goals
            go_meet
            case rel => exact ⟨rfl, HH.out.more (by omega) (by omega)⟩
        · by_cases h3 : (k : Int) % 3 = 0
          · obtain ⟨m, S, f, hat, hcm, hg, hfb, hu, hle⟩ := HH.out
            obtain ⟨m1, e1, cm1, u1, g1, o1, l1⟩ := hcm.create HR.out
            obtain ⟨m2, e2, cm2, u2, g2, o2, l2⟩ := cm1.append (b := [111, 116, 104, 101, 114]) g1 (by simp; omega)
            have hnn : nw.data.toList ≠ nx.data.toList := fun h => hE (toList_inj (by rw [ByteArray.toList_eq, ByteArray.toList_eq, h]))
            have hst : ∀ (S' : Nat → Prop) (w' : World), At W w' d m2 S' → Holds W d b (100 + 5 * (k + 1)) (1 + 2 * (k + 1)) nw w' := fun S' w' hw => ⟨m2, S', f, hw, cm2, by rw [o2 _ hnn, o1 _ hnn]; exact hg, hfb, by simp at u2; omega, by omega⟩
            have HST := Lib.hid hst
            have HAT := Lib.hid hat
            have E1 := Lib.hid e1
            have E2 := Lib.hid e2
            have L0 : m.fs.length ≤ 1099511627775 := by omega
            have L1 : m1.fs.length ≤ 1099511627775 := by omega
            have hne : ¬ nx.toList = nw.toList := fun h => hE (toList_inj h)
            clear hst hat e1 e2 cm1 cm2 g1 g2 o1 o2 hnn hcm hg
            go_wp2_with fail
            refine (create_at HAT.out L0 _ E1.out).mono ?_
            rintro e w5 ⟨rfl, S5, h5⟩
            have H5 := Lib.hid h5
            clear h5
            go_wp2_with fail
            refine (append_at (H5.out.alloc _) L1 _ _ [111, 116, 104, 101, 114] (rd_lit _ [111, 116, 104, 101, 114] _ (by decide)) (fun _ g hg hs => by cases hg; exact absurd (H5.out.lt hs) (Nat.lt_irrefl _)) E2.out).mono ?_
            rintro e w6 ⟨rfl, S6, h6⟩
            have H6 := Lib.hid h6
            clear h6
            go_wp2_with fail
            go_meet
            case rel => exact ⟨rfl, HST.out _ _ H6.out⟩
          · go_wp2_with fail
            all_goals
              go_meet
              case rel => exact ⟨rfl, HH.out.more (by omega) (by omega)⟩
      case rest =>
        obtain ⟨rfl, hh⟩ := hcut
        obtain ⟨m, S, f, hat, hcm, hg, hfb, hu, hle⟩ := hh
        obtain ⟨m1, e1, cm1, u1, g1, o1, _, l1⟩ := hcm.rename hg HR.out
        have HAT := Lib.hid hat
        have E1 := Lib.hid e1
        have L0 : m.fs.length ≤ 1099511627775 := by omega
        have L1 : m1.fs.length ≤ 1099511627775 := by omega
        have hst : ∀ (S' : Nat → Prop) (w' : World), At W w' d m1 S' → Holds W d b (100 + 5 * (k + 1)) (1 + 2 * (k + 1)) nx w' := fun S' w' hw => ⟨m1, S', _, hw, cm1, g1, hfb, by omega, by omega⟩
        have HST := Lib.hid hst
        have G1 := Lib.hid g1
        have O1 := Lib.hid o1
        clear hat e1 hst g1 o1 HH
        go_wp2_with fail
        refine (rename_at HAT.out L0 _ _ E1.out).mono ?_
        rintro e w5 ⟨rfl, S5, h5⟩
        have H5 := Lib.hid h5
        clear h5
        go_wp2_with fail
        refine (read_some H5.out L1 _ G1.out).mono ?_
        rintro e w6 ⟨v6, ob6, rfl, h6, hb6, ho6⟩
        simp only [hfb] at h6
        have H6 := Lib.hid (H5.out.mem hb6)
        have R6 := Lib.hid h6.rd
        obtain ⟨a6, c6, rfl⟩ := h6.shape
        clear h6 hb6 ho6
        go_wp2_with fail
        by_cases hE : nx = nw
        · subst hE
          refine (read_some H6.out L1 _ G1.out).mono ?_
          rintro e w7 ⟨v7, ob7, rfl, h7, hb7, ho7⟩
          obtain ⟨a7, c7, rfl⟩ := h7.shape
          have H7 := Lib.hid (H6.out.mem hb7)
          have p1 := convStr (R6.out.below hb7)
          have p2 := convStr (CB.out.below H7.out.below)
          clear h7 hb7 ho7
          go_wp2_with fail
          go_roundg (min zs.length 20 - (k + 1))
          case measure => omega
          case rel => exact ⟨k + 1, _, by omega, by omega, rfl, by go_num, HST.out _ _ H7.out⟩
        · have hne : ¬ nx.toList = nw.toList := fun h => hE (toList_inj h)
          have hne2 : (nx.toList == nw.toList) = false := by simpa using hne
          have hnn : nw.data.toList ≠ nx.data.toList := fun h => hE (toList_inj (by rw [ByteArray.toList_eq, ByteArray.toList_eq, h]))
          refine (read_none H6.out L1 _ (O1.out hnn)).mono ?_
          rintro e w7 ⟨rfl, rfl⟩
          have p1 := convStr R6.out
          have p2 := convStr (CB.out.below H6.out.below)
          clear hnn
          go_wp2_with fail
          go_roundg (min zs.length 20 - (k + 1))
          case measure => omega
          case rel => exact ⟨k + 1, _, by omega, by omega, rfl, by go_num, HST.out _ _ H6.out⟩
    · obtain ⟨m, S, f, hat, hcm, hg, hfb, hu, hle⟩ := HH.out
      obtain ⟨m1, e1, cm1, u1, g1, o1, l1⟩ := hcm.remove hg
      have HAT := Lib.hid hat
      have E1 := Lib.hid e1
      have E2 := Lib.hid (MD.remove_gone g1)
      have L0 : m.fs.length ≤ 1099511627775 := by omega
      have L1 : m1.fs.length ≤ 1099511627775 := by omega
      clear hat e1 g1 o1 HH hcm hg cm1
      by_cases q1 : (k : Int) < zs.length
      · have q2 : ¬ (k : Int) < 20 := by omega
        go_wp2_with fail
        refine (remove_at HAT.out L0 _ E1.out).mono ?_
        rintro e w5 ⟨rfl, S5, h5⟩
        have H5 := Lib.hid h5
        clear h5
        go_wp2_with fail
        refine (remove_at H5.out L1 _ E2.out).mono ?_
        rintro e w6 ⟨rfl, S6, h6⟩
        have H6 := Lib.hid h6
        clear h6
        go_wp2_with fail
        refine (known3_any W _ H6.out.below).mono ?_
        rintro e w7 ⟨rfl, hb7⟩
        go_wp2_with fail
        go_ret
        exact ⟨rfl, hb7⟩
      · go_wp2_with fail
        refine (remove_at HAT.out L0 _ E1.out).mono ?_
        rintro e w5 ⟨rfl, S5, h5⟩
        have H5 := Lib.hid h5
        clear h5
        go_wp2_with fail
        refine (remove_at H5.out L1 _ E2.out).mono ?_
        rintro e w6 ⟨rfl, S6, h6⟩
        have H6 := Lib.hid h6
        clear h6
        go_wp2_with fail
        refine (known3_any W _ H6.out.below).mono ?_
        rintro e w7 ⟨rfl, hb7⟩
        go_wp2_with fail
        go_ret
        exact ⟨rfl, hb7⟩
end Go.Proofs.Ytmfobcejnkakpaa.Names
