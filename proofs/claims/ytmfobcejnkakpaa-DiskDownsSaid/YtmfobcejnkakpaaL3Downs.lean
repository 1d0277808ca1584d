/- DiskDowns: when power is gone nothing changes any more, whatever is called, till the crash. -/
import Derived.Test.YtmfobcejnkakpaaL3b
import Derived.Test.YtmfobcejnkakpaaDiskC
import Derived.Deep.LoopGhost
import Derived.Deep.CutRange
import Derived.Deep.CutBlock
import Derived.Deep.RegionHeldLaw
namespace Go.Proofs.Ytmfobcejnkakpaa
set_option linter.unusedVariables false
set_option linter.unusedSimpArgs false
open Go.RowKit
set_option maxRecDepth 100000

/-- a disk since w0, and a slice beside it that stays as it is -/
structure AtN (w0 w : World) (d : Nat) (m : MD) (S : Nat → Prop) (v : Value) (n : Nat) (xs : List Value) : Prop where
  at_ : At w0 w d m S
  rd : Rd w 1 v n xs
  sep : 0 < n → ∀ g, v.ownBlock = some g → ¬ S g
theorem AtN.post {w0 w : World} {d : Nat} {m m' : MD} {S : Nat → Prop} {v : Value} {n : Nat} {xs : List Value} {r : Value} {e : Ending} {w' : World} (h : AtN w0 w d m S v n xs) (hp : DPost w d S r m' e w') :
    e = .returned r ∧ ∃ S', AtN w0 w' d m' S' v n xs ∧ Upd S w w' := by
  have hp' := hp
  obtain ⟨he, S', h1, h2, h3⟩ := hp
  obtain ⟨hb1, hb2⟩ := And.intro h.at_ h.rd
  refine ⟨he, S', ⟨⟨h1, fun b hb => ?_, ?_⟩, h.rd.upd h2 h.sep, fun h0 g hg hs => ?_⟩, h2⟩
  · rcases h3 b hb with h' | h'
    · exact h.at_.since b h'
    · exact Nat.le_trans h.at_.below.size h'
  · exact below_upd h.at_.below h2 (fun b hb => h.at_.since b hb)
  · rcases h3 g hs with h' | h'
    · exact h.sep h0 g hg h'
    · have := h.rd.old (by omega) g hg
      omega
theorem AtN.mem {w0 w : World} {d : Nat} {m : MD} {S : Nat → Prop} {v : Value} {n : Nat} {xs : List Value} (h : AtN w0 w d m S v n xs) {w' : World} (hb : Below w.heap.size w w') : AtN w0 w' d m S v n xs :=
  ⟨h.at_.mem hb, h.rd.below hb, h.sep⟩

namespace MD
/-- power is gone -/
theorem Ok.dead {m : MD} (h : Ok m) (hd : m.down = true) : m.count = m := by unfold MD.count; rw [h.down hd]; rfl
theorem dead_create {m : MD} (h : Ok m) (hd : m.down = true) (s : Bs) : ∃ r, m.create s = (r, m) := by
  unfold MD.create; rw [h.dead hd, hd]; split
  · exact ⟨_, rfl⟩
  · exact ⟨_, rfl⟩
theorem dead_append {m : MD} (h : Ok m) (hd : m.down = true) (s b : Bs) : ∃ r, m.append s b = (r, m) := by
  unfold MD.append; rw [h.dead hd, hd]; cases m.get s with
  | none => exact ⟨_, rfl⟩
  | some f => simp only; rw [if_pos (.inl trivial)]; exact ⟨_, rfl⟩
theorem dead_sync {m : MD} (h : Ok m) (hd : m.down = true) (s : Bs) : ∃ r, m.sync s = (r, m) := by
  unfold MD.sync; rw [h.dead hd, hd]; cases m.get s with
  | none => exact ⟨_, rfl⟩
  | some f => exact ⟨_, rfl⟩
theorem dead_cut {m : MD} (h : Ok m) (hd : m.down = true) (s : Bs) (n : Int) : ∃ r, m.cut s n = (r, m) := by
  unfold MD.cut; rw [h.dead hd, hd]; cases m.get s with
  | none => exact ⟨_, rfl⟩
  | some f => simp only; split
              · exact ⟨_, rfl⟩
              · exact ⟨_, rfl⟩
theorem dead_rename {m : MD} (h : Ok m) (hd : m.down = true) (a c : Bs) : ∃ r, m.rename a c = (r, m) := by
  unfold MD.rename; rw [h.dead hd, hd]; cases m.get a with
  | none => exact ⟨_, rfl⟩
  | some f => simp only; split
              · exact ⟨_, rfl⟩
              · exact ⟨_, rfl⟩
theorem dead_remove {m : MD} (h : Ok m) (hd : m.down = true) (s : Bs) : ∃ r, m.remove s = (r, m) := by
  unfold MD.remove; rw [h.dead hd, hd]; cases m.get s with
  | none => exact ⟨_, rfl⟩
  | some f => exact ⟨_, rfl⟩
theorem Calm.crash {m : MD} (h : Ok m) (k : Int) : Calm m.limit (m.crash k) := ⟨h.crash k, rfl, rfl, rfl⟩
theorem crash_get (m : MD) (k : Int) (s : Bs) : (m.crash k).get s = (m.get s).map fun f => { f with b := f.b.take (kept k f), synced := kept k f } := by
  unfold MD.crash MD.get
  exact map_get (key := MF.name) (key' := MF.name) (fun f : MF => ({ f with b := f.b.take (kept k f), synced := kept k f } : MF)) (fun _ => rfl) m.fs s
end MD

namespace Downs
/-- the disk as it stands, and a block beside it -/
def DrP (W : World) (d : Nat) (m : MD) (v : Value) (n : Nat) (xs : List Value) (g : Nat) (w : World) : Prop := ∃ S, AtN W w d m S v n xs ∧ w.cell? ⟨g, 3, none⟩ = some (.bool false)
theorem DrP.of {W w w' : World} {d : Nat} {m : MD} {S S' : Nat → Prop} {v : Value} {n : Nat} {xs : List Value} {g : Nat} (h : AtN W w' d m S' v n xs) (hu : Upd S w w') (hg : ¬ S g) (hl : g < w.heap.size) (hc : w.cell? ⟨g, 3, none⟩ = some (.bool false)) : DrP W d m v n xs g w' :=
  ⟨S', h, by rw [hu.cell (p := ⟨g, 3, none⟩) hl hg]; exact hc⟩
/-- while the calls are counted down -/
def Ph (W : World) (d k i : Nat) (w : World) : Prop :=
  ∃ (m : MD) (S : Nat → Prop) (f : MF), At W w d m S ∧ m.get [97] = some f ∧ m.fs.length ≤ 1 ∧ ((i < k ∧ m.armed = (k : Int) - i ∧ m.down = false) ∨ (i = k ∧ m.down = true))
theorem sync_step {m : MD} {f : MF} {k i : Nat} (hf : m.get [97] = some f) (hi : i < k) (ha : m.armed = (k : Int) - i) (hd : m.down = false) :
    ∃ m' f', m.sync [97] = (if i + 1 < k then 0 else 13, m') ∧ m'.get [97] = some f' ∧ m'.fs.length = m.fs.length ∧ ((i + 1 < k ∧ m'.armed = (k : Int) - (i + 1 : Nat) ∧ m'.down = false) ∨ (i + 1 = k ∧ m'.down = true)) := by
  have ec : m.count = { m with armed := m.armed - 1, down := m.armed - 1 == 0 } := by unfold MD.count; rw [if_pos (by omega)]
  unfold MD.sync
  rw [hf, ec]
  simp only
  by_cases h : i + 1 < k
  · have h0 : (m.armed - 1 == 0) = false := by simp; omega
    rw [h0, if_neg (by decide), if_pos h]
    refine ⟨_, { f with synced := f.b.length }, rfl, ?_, MD.length_set .., .inl ⟨h, by simp; omega, rfl⟩⟩
    show getL MF.name (setL MF.name m.fs [97] _) [97] = _
    rw [get_set m.fs [97] (fun f => { f with synced := f.b.length }) (fun _ => rfl), show getL MF.name m.fs [97] = some f from hf]
    rfl
  · have h0 : (m.armed - 1 == 0) = true := by simp; omega
    rw [h0, if_pos rfl, if_neg h]
    exact ⟨_, f, rfl, hf, rfl, .inr ⟨by omega, rfl⟩⟩

set_option maxHeartbeats 4000000 in
theorem walk (W : World) (ab : Option Addr) (b0 : Bs) (cb : Nat) (hb : Rd W 1 (.slice ab b0.length cb) b0.length (b0.map bv)) (n : Int) (hn : -9223372036854775808 ≤ n ∧ n ≤ 9223372036854775807)
    (al : Option Addr) (qs : List AskM) (cl : Nat) (hl : Rd W 6 (.slice al qs.length cl) qs.length (qs.map askCells).flatten) (hq : ∀ x ∈ qs, AskIn W x) :
    Calls Try.prog 6 #[.slice ab b0.length cb, .int .i64 n, .slice al qs.length cl] W fun e w' => e = .returned (.bool true) ∧ Below W.heap.size W w' := by
  have CB := Lib.hid (keepCut_rd hb 50)
  have lb : (b0.take 50).length ≤ 50 := by simp; omega
  have KB := fun w (hw : Below W.heap.size W w) => keepCut_any (hb.below hw) 50 (by omega)
  generalize b0.take 50 = b at CB lb KB
  have KB := Lib.hid KB
  have HL := Lib.hid hl
  have HQ := Lib.hid hq
  have hcl : qs.length ≤ cl ∧ cl ≤ maxLen := by
    obtain ⟨_, _, _, _, hv, h3, h4, _⟩ := hl
    simp only [Value.slice.injEq] at hv
    obtain ⟨_, _, rfl⟩ := hv
    exact ⟨h3, h4⟩
  unfold maxLen at hcl
  have hk := within_in n 1 5 (by omega)
  have KW := fun w => within_any n 1 5 w hn (by omega) (by omega) (by omega)
  obtain ⟨k, hkk⟩ : ∃ k : Nat, within n 1 5 = k := ⟨_, (Int.toNat_of_nonneg (by omega)).symm⟩
  rw [hkk] at hk KW
  have KW := Lib.hid KW
  clear hl hq hkk
  go_enter Try.func6, Try.ntmps6
  go_wp2_with fail
  refine (new_at (Below.refl _ _) 1000 (by omega) (by omega)).mono ?_
  rintro e w1 ⟨d, S1, rfl, h1⟩
  have H1 := Lib.hid h1
  clear h1
  obtain ⟨m1, e1, cm1, u1, g1, _, l1⟩ := (MD.Calm.new (L := 1000) (by omega) (by omega)).create (s := [97]) (by decide)
  have l1' : m1.fs.length ≤ 1 := l1
  have u1' : m1.used = 0 := by rw [MD.new_used] at u1; omega
  obtain ⟨m2, e2, cm2, u2, g2, _, l2⟩ := cm1.append (b := b) g1 (by omega)
  go_wp2_with fail
  refine (create_at H1.out (by decide) _ (show _ = ((0 : Int), m1) from e1)).mono ?_
  rintro e w2 ⟨rfl, S2, h2⟩
  have H2 := Lib.hid h2
  clear h2 H1
  go_wp2_with fail
  refine (KB.out _ H2.out.below).mono ?_
  rintro e w' ⟨rfl, hw⟩
  obtain rfl := hw.symm
  go_wp2_with fail
  refine (append_at H2.out (by omega) _ _ _ (CB.out.below H2.out.below) (sep_old H2.out CB.out) (show _ = ((0 : Int), m2) from e2)).mono ?_
  rintro e w3 ⟨rfl, S3, h3⟩
  have H3 := Lib.hid h3
  clear h3 H2
  go_wp2_with fail
  refine (KW.out _).mono ?_
  rintro e w' ⟨rfl, hw⟩
  obtain rfl := hw.symm
  go_wp2_with fail
  have earm : m2.arm k = { m2 with armed := k } := by
    unfold MD.arm; rw [if_neg (by rw [cm2.up]; decide), Int.max_eq_left (by omega)]
  refine (arm_at H3.out k (by omega) (by omega) earm).mono ?_
  rintro e w4 ⟨rfl, S4, h4⟩
  have hst : Ph W d k 0 w4 := ⟨_, S4, _, h4, g2, by show m2.fs.length ≤ 1; omega, .inl ⟨by omega, by simp, cm2.up⟩⟩
  have HST := Lib.hid hst
  clear hst h4 H3 cm1 cm2 e1 e2 g1 g2 l1 l2 u1 u2 l1' u1' earm
  go_wp2_with fail
  go_loopg [10] k (fun g s10 wr => ∃ i : Nat, i ≤ k ∧ g = k - i ∧ s10 = .int .i64 i ∧ Ph W d k i wr)
  case atStart => exact ⟨0, by omega, by omega, rfl, HST.out⟩
  case round =>
    obtain ⟨i, hi, rfl, rfl, hh⟩ := hrel
    clear HST
    obtain ⟨m, S, f, hat, hg, hle, hph⟩ := hh
    by_cases hlt : i < k
    · obtain ⟨_, ha, hd⟩ | ⟨h, _⟩ := hph
      rotate_left
      · omega
      obtain ⟨m', f', es, gs, ls, ph⟩ := sync_step hg hlt ha hd
      have q1 : (i : Int) < k := by omega
      have HAT := Lib.hid hat
      have hst : ∀ S' w', At W w' d m' S' → Ph W d k (i + 1) w' := fun S' w' hw => ⟨m', S', f', hw, gs, by omega, ph⟩
      have HST := Lib.hid hst
      clear hat hst ph gs hd
      by_cases hi1 : i + 1 < k
      · have q2 : (i : Int) < (k : Int) - 1 := by omega
        rw [if_pos hi1] at es
        have ES := Lib.hid es
        clear es
        go_wp2_with fail
        refine (sync_at HAT.out (by omega) _ ES.out).mono ?_
        rintro e w5 ⟨rfl, S5, h5⟩
        have H5 := Lib.hid h5
        clear h5
        go_wp2_with fail
        go_roundg (k - (i + 1))
        case measure => omega
        case rel => exact ⟨i + 1, by omega, rfl, by go_num, HST.out _ _ H5.out⟩
      · have q2 : ¬ (i : Int) < (k : Int) - 1 := by omega
        rw [if_neg hi1] at es
        have ES := Lib.hid es
        clear es
        go_wp2_with fail
        refine (sync_at HAT.out (by omega) _ ES.out).mono ?_
        rintro e w5 ⟨rfl, S5, h5⟩
        have H5 := Lib.hid h5
        clear h5
        go_wp2_with fail
        go_roundg (k - (i + 1))
        case measure => omega
        case rel => exact ⟨i + 1, by omega, rfl, by go_num, HST.out _ _ H5.out⟩
    · obtain ⟨h, _, _⟩ | ⟨rfl, hd⟩ := hph
      · omega
      have HAT := Lib.hid hat
      clear hat
      go_wp2_with fail
      refine (names_any HAT.out.rep (by omega)).mono ?_
      rintro e w5 ⟨v5, ob5, rfl, h5, hb5, ho5⟩
      have hatn : AtN W w5 d m S v5 m.fs.length (m.fs.map fun f => strV f.name) := ⟨HAT.out.mem hb5, h5.rd, fun h0 g hg hs => by
        obtain ⟨g', cap, cur, rfl, hob, _⟩ := h5.some_of h0
        cases hg
        have h1 : g' < wr.heap.size := HAT.out.lt hs
        have := ho5 _ hob
        omega⟩
      obtain ⟨a5, c5, rfl⟩ := h5.shape
      have HN := Lib.hid hatn
      clear hatn h5 hb5 ho5 HAT
      go_wp2_with fail
      refine (used_rep HN.out.at_.rep (by omega)).mono ?_
      rintro e w' ⟨rfl, hw⟩
      obtain rfl := hw.symm
      go_wp2_with fail
      obtain ⟨N, hN⟩ : ∃ N, N = m.fs.length := ⟨_, rfl⟩
      obtain ⟨NS, hNS⟩ : ∃ NS, NS = m.fs.map fun f => strV f.name := ⟨_, rfl⟩
      rw [← hN, ← hNS] at HN
      rw [← hN]
      have hNl : N ≤ 1 := by omega
      have hML : m.fs.length ≤ 1099511627775 := by omega
      have HD := Lib.hid hd
      have HG := Lib.hid hg
      have HNe := Lib.hid hN
      have HNSe := Lib.hid hNS
      clear hN hNS hd hg KW KB
      obtain ⟨u, hu⟩ : ∃ u, Hid (m.used = u) := ⟨_, Lib.hid rfl⟩
      rw [hu.out]
      go_loopg [13] (min qs.length 15) (fun g s13 wr => ∃ j : Nat, j ≤ min qs.length 15 ∧ g = min qs.length 15 - j ∧ s13 = .int .i64 j ∧ ∃ S, AtN W wr d m S (.slice a5 N c5) N NS)
      case atStart => exact ⟨0, by omega, by omega, rfl, _, HN.out⟩
      case round =>
        obtain ⟨j, hj, rfl, rfl, S6, h6⟩ := hrel
        have H6 := Lib.hid h6
        clear h6 HN
        by_cases hlt2 : j < min qs.length 15
        · have q1 : (j : Int) < qs.length := by omega
          have q2 : (j : Int) < 15 := by omega
          have q3 : j < qs.length := by omega
          obtain ⟨bb, oo, rfl, hbb, _, _, hcell⟩ := ask_cell HL.out (by omega)
          have hx := HQ.out qs[j] (List.getElem_mem q3)
          have hc := hcell j q3
          clear hcell
          generalize qs[j] = x at hc hx
          obtain ⟨kd, nf, ng, nn, bx, sx⟩ := x
          obtain ⟨ax, xb, cx⟩ := bx
          have c0 := hc 0 _ rfl
          have c1 := hc 1 _ rfl
          have c2 := hc 2 _ rfl
          have c3 := hc 3 _ rfl
          have c4 := hc 4 _ rfl
          have c5' := hc 5 _ rfl
          have HX := Lib.hid hx
          unfold rowV at c4
          simp only at c0 c1 c2 c3 c4 c5'
          clear hc hx
          have B6 := H6.out.at_.below
          rw [← B6.cell hbb] at c0 c1 c2 c3 c4 c5'
          have B6 := Lib.hid B6
          rw [Nat.add_zero] at c0
          rw [← Nat.add_assoc] at c1 c2 c3 c4 c5'
          by_cases h7 : kd < 7
          · go_upto_region 17 with fail
            have e1 : ∀ w', Below wr.heap.size wr w' → w'.cell? ⟨bb, oo + j * 6 + 1, none⟩ = some (.int .i64 nf) ∧ w'.cell? ⟨bb, oo + j * 6 + 5, none⟩ = some (.string sx) := fun w' hb => ⟨by rw [hb.cell (Nat.lt_of_lt_of_le hbb B6.out.size)]; exact c1, by rw [hb.cell (Nat.lt_of_lt_of_le hbb B6.out.size)]; exact c5'⟩
            have e1 := Lib.hid e1
            have hs5 := HX.out.s
            generalize hZ : (Obj.cells #[.slice none 0 0, .int .i64 0, .int .i64 0, .bool false] 52) = Z
            go_region_held_law (fun w' => w'.cell? ⟨bb, oo + j * 6 + 1, none⟩ = some (.int .i64 nf) ∧ w'.cell? ⟨bb, oo + j * 6 + 5, none⟩ = some (.string sx)) (first | exact e1.out _ (((Below.refl _ _).alloc (Nat.le_refl _) _).drew) | exact e1.out _ (by assumption))
              (first
                | (go_at_call 35
                   refine (file_any nf sx _ hs5).mono ?_
                   rintro e w7 ⟨rfl, hb7⟩
                   have hb8 : Below wr.heap.size wr w7 := (((Below.refl _ _).alloc (Nat.le_refl _) _).drew).trans (hb7.mono (by simp))))
            have hbr : bb < wr.heap.size := Nat.lt_of_lt_of_le hbb B6.out.size
            rw [← hb8.cell hbr] at c0 c1 c2 c3 c4 c5'
            have hz : w7.cell? ⟨wr.heap.size, 3, none⟩ = some (.bool false) := by
              rw [hb7.cell (by simp)]
              rw [World.cell?_drew, ← hZ]
              exact Blk.cell (heap_alloc_new wr _) 3
            generalize hnm : bsv (fileN nf sx.data.toList) = nm
            clear hnm
            go_upto_block 4 with fail
            have hA7 := H6.out.mem hb8
            have hg7 : ¬ S6 wr.heap.size := fun h => Nat.lt_irrefl _ (H6.out.at_.lt h)
            have hl7 : wr.heap.size < w7.heap.size := World.block_lt_of_cell? w7 _ hz
            have HA7 := Lib.hid hA7
            have HZ := Lib.hid hz
            have E1 := Lib.hid e1
            have HB7 := Lib.hid hb7
            have HB8 := Lib.hid hb8
            clear hA7 hz hb7 hb8
            go_cut [] from 60 to 167 (fun wx => DrP W d m (.slice a5 N c5) N NS wr.heap.size wx)
            case first =>
              have hok := HA7.out.at_.ok
              rcases (show kd = 1 ∨ kd = 2 ∨ kd = 3 ∨ kd = 4 ∨ kd = 5 ∨ kd = 6 ∨ (¬ kd = 1 ∧ ¬ kd = 2 ∧ ¬ kd = 3 ∧ ¬ kd = 4 ∧ ¬ kd = 5 ∧ ¬ kd = 6) by omega) with rfl | rfl | rfl | rfl | rfl | rfl | ⟨n1, n2, n3, n4, n5, n6⟩
              · obtain ⟨r, er⟩ := MD.dead_create hok HD.out nm.data.toList
                have ER := Lib.hid er
                clear er
                go_wp2_with fail
                refine (create_any HA7.out.at_.rep hML _).mono ?_
                rintro e w8 hp
                rw [ER.out] at hp
                obtain ⟨rfl, S8, h8, hu8⟩ := HA7.out.post hp
                have HR := Lib.hid (DrP.of h8 hu8 hg7 hl7 HZ.out)
                clear h8 hu8 hp
                go_wp2_with fail
                go_meet
                case rel => exact HR.out
              · have CX := Lib.hid (keepCut_rd HX.out.b 20)
                have KX := fun w (hw : Below W.heap.size W w) => keepCut_any (HX.out.b.below hw) 20 (by omega)
                simp only [rowV] at CX KX
                generalize xb.take 20 = xc at CX KX
                have KX := Lib.hid KX
                obtain ⟨r, er⟩ := MD.dead_append hok HD.out nm.data.toList xc
                have ER := Lib.hid er
                clear er
                go_wp2_with fail
                refine (KX.out _ HA7.out.at_.below).mono ?_
                rintro e w' ⟨rfl, hw⟩
                obtain rfl := hw.symm
                go_wp2_with fail
                refine (append_any HA7.out.at_.rep hML _ _ _ (CX.out.below HA7.out.at_.below) (sep_old HA7.out.at_ CX.out)).mono ?_
                rintro e w8 hp
                rw [ER.out] at hp
                obtain ⟨rfl, S8, h8, hu8⟩ := HA7.out.post hp
                have HR := Lib.hid (DrP.of h8 hu8 hg7 hl7 HZ.out)
                clear h8 hu8 hp
                go_wp2_with fail
                go_meet
                case rel => exact HR.out
              · obtain ⟨r, er⟩ := MD.dead_sync hok HD.out nm.data.toList
                have ER := Lib.hid er
                clear er
                go_wp2_with fail
                refine (sync_any HA7.out.at_.rep hML _).mono ?_
                rintro e w8 hp
                rw [ER.out] at hp
                obtain ⟨rfl, S8, h8, hu8⟩ := HA7.out.post hp
                have HR := Lib.hid (DrP.of h8 hu8 hg7 hl7 HZ.out)
                clear h8 hu8 hp
                go_wp2_with fail
                go_meet
                case rel => exact HR.out
              · obtain ⟨r, er⟩ := MD.dead_cut hok HD.out nm.data.toList nn
                have ER := Lib.hid er
                clear er
                go_wp2_with fail
                refine (cut_any HA7.out.at_.rep hML _ _).mono ?_
                rintro e w8 hp
                rw [ER.out] at hp
                obtain ⟨rfl, S8, h8, hu8⟩ := HA7.out.post hp
                have HR := Lib.hid (DrP.of h8 hu8 hg7 hl7 HZ.out)
                clear h8 hu8 hp
                go_wp2_with fail
                go_meet
                case rel => exact HR.out
              · obtain ⟨r, er⟩ := MD.dead_rename hok HD.out nm.data.toList (fileN ng sx.data.toList)
                have ER := Lib.hid er
                clear er
                have e2 : ∀ w', Below W.heap.size W w' → w'.cell? ⟨bb, oo + j * 6 + 2, none⟩ = some (.int .i64 ng) ∧ w'.cell? ⟨bb, oo + j * 6 + 5, none⟩ = some (.string sx) := fun w' hb =>
                  ⟨by rw [hb.cell hbb, ← HA7.out.at_.below.cell hbb]; exact c2, by rw [hb.cell hbb, ← HA7.out.at_.below.cell hbb]; exact c5'⟩
                have e2 := Lib.hid e2
                go_upto_region 28 with fail
                go_region_held_law (fun w' => w'.cell? ⟨bb, oo + j * 6 + 2, none⟩ = some (.int .i64 ng) ∧ w'.cell? ⟨bb, oo + j * 6 + 5, none⟩ = some (.string sx)) (first | exact e2.out _ HA7.out.at_.below.drew | exact e2.out _ (by assumption))
                  (first
                    | (go_at_call 35
                       refine (file_any ng sx _ hs5).mono ?_
                       rintro e w8 ⟨rfl, hb8⟩
                       have hb9 : Below w7.heap.size w7 w8 := (Below.refl _ _).drew.trans hb8
                       have hB := (HA7.out.mem hb9).at_.below)
                    | (go_at_call 24
                       refine (rename_any (HA7.out.mem hb9).at_.rep hML _ _).mono ?_
                       rintro e w9 hp
                       rw [show (bsv (fileN ng sx.data.toList)).data.toList = fileN ng sx.data.toList from by simp [bsv], ER.out] at hp
                       obtain ⟨rfl, S8, h8, hu8⟩ := (HA7.out.mem hb9).post hp
                       have hB' := h8.at_.below))
                have HR := Lib.hid (DrP.of h8 hu8 hg7 (Nat.lt_of_lt_of_le hl7 hb9.size) (by rw [hb9.cell hl7]; exact HZ.out))
                clear h8 hu8 hp
                go_wp2_with fail
                go_meet
                case rel => exact HR.out
              · obtain ⟨r, er⟩ := MD.dead_remove hok HD.out nm.data.toList
                have ER := Lib.hid er
                clear er
                go_wp2_with fail
                refine (remove_any HA7.out.at_.rep hML _).mono ?_
                rintro e w8 hp
                rw [ER.out] at hp
                obtain ⟨rfl, S8, h8, hu8⟩ := HA7.out.post hp
                have HR := Lib.hid (DrP.of h8 hu8 hg7 hl7 HZ.out)
                clear h8 hu8 hp
                go_wp2_with fail
                go_meet
                case rel => exact HR.out
              · go_wp2_with fail
                go_meet
                case rel => exact ⟨_, HA7.out, HZ.out⟩
            case rest =>
              obtain ⟨S9, h9, hz9⟩ := hcut
              have H9 := Lib.hid h9
              clear h9 E1 HA7 HZ HB7 HB8 c0 c1 c2 c3 c4 c5'
              go_wp2_with fail
              refine (down_any H9.out.at_.rep).mono ?_
              rintro e w' ⟨rfl, hw⟩
              obtain rfl := hw.symm
              rw [HD.out]
              go_wp2_with fail
              refine (used_rep H9.out.at_.rep hML).mono ?_
              rintro e w' ⟨rfl, hw⟩
              obtain rfl := hw.symm
              rw [hu.out]
              go_wp2_with fail
              refine (names_any H9.out.at_.rep hML).mono ?_
              rintro e w11 ⟨v11, ob11, rfl, h11, hb11, ho11⟩
              rw [← HNe.out, ← HNSe.out] at h11
              obtain ⟨a11, c11, rfl⟩ := h11.shape
              have H11 := Lib.hid (H9.out.mem hb11)
              have R11 := Lib.hid h11.rd
              clear h11 hb11 ho11
              have hnl : N = (m.fs.map MF.name).length := by rw [List.length_map]; exact HNe.out
              have hns : NS = (m.fs.map MF.name).map strV := by rw [List.map_map]; exact HNSe.out
              have SM := sameStr_of hnl (hns ▸ R11.out) (hns ▸ H11.out.rd)
              have SM := Lib.hid SM
              clear hnl hns
              go_wp2_with fail
              refine SM.out.mono ?_
              rintro e w12 ⟨rfl, hb12⟩
              have H12 := Lib.hid (H11.out.mem hb12)
              clear hb12
              go_wp2_with fail
              go_roundg (min qs.length 15 - (j + 1))
              case measure => omega
              case rel => exact ⟨j + 1, by omega, rfl, by go_num, _, H12.out⟩
          · go_wp2_with fail
            go_roundg (min qs.length 15 - (j + 1))
            case measure => omega
            case rel => exact ⟨j + 1, by omega, rfl, by go_num, _, H6.out⟩
        · have hok := H6.out.at_.ok
          have cm := MD.Calm.crash hok 0
          have hg' := MD.crash_get m 0 [97]
          rw [HG.out] at hg'
          have hroom := cm.ok.room
          obtain ⟨m', e', cm', _, _, _, _⟩ := cm.append (b := []) hg' (by rw [cm.limit] at hroom; simpa using hroom)
          have hlc : (m.crash 0).fs.length ≤ 1099511627775 := by show (m.fs.map _).length ≤ _; rw [List.length_map]; exact hML
          have hup : (m.crash 0).down = false := rfl
          have E' := Lib.hid e'
          have UP := Lib.hid hup
          generalize hmc : m.crash 0 = mc at *
          have HMC := Lib.hid hmc
          clear e' cm hg' hroom cm' hup hmc
          rcases (show (¬ (j : Int) < qs.length) ∨ ((j : Int) < qs.length ∧ ¬ (j : Int) < 15) by omega) with q1 | ⟨q1, q2⟩
          all_goals
            go_wp2_with fail
            refine (crash_at H6.out.at_ hML 0 (by omega) (by omega) HMC.out).mono ?_
            rintro e w7 ⟨rfl, S7, h7⟩
            have H7 := Lib.hid h7
            clear h7
            go_wp2_with fail
            refine (down_any H7.out.rep).mono ?_
            rintro e w' ⟨rfl, hw⟩
            obtain rfl := hw.symm
            rw [UP.out]
            go_wp2_with fail
            refine (append_at H7.out hlc _ _ [] (rd_nil _ _) (fun _ g hg => by cases hg) E'.out).mono ?_
            rintro e w8 ⟨rfl, S8, h8⟩
            have H8 := Lib.hid h8
            clear h8
            go_wp2_with fail
            refine (known3_any W _ H8.out.below).mono ?_
            rintro e w9 ⟨rfl, hb9⟩
            go_wp2_with fail
            go_ret
            exact ⟨rfl, hb9⟩
end Downs
end Go.Proofs.Ytmfobcejnkakpaa
