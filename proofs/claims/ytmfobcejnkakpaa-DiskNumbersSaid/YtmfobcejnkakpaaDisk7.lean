/- The disk's names. -/
import Derived.Test.YtmfobcejnkakpaaDisk6
namespace Go.Proofs.Ytmfobcejnkakpaa
set_option linter.unusedVariables false
set_option linter.unusedSimpArgs false
open Go.RowKit
set_option maxRecDepth 100000

theorem bsv_key (f : FM) : bsv f.key = f.name := rfl
theorem infoStr : (Try.prog.info? 9).map (fun i => (i.zero, i.size, i.bytes)) = some (some (.string default), 1, 16) := by kernel_rfl
def strV (l : Bs) : Value := .string (bsv l)

/-- the relation of the loop -/
def NamesRel (w : World) (fs : List FM) (k : Nat) (vo : Value) (wr : World) : Prop :=
  ∃ ob, Own wr 9 1 vo k ((fs.take k).map fun f => .string f.name) ob ∧ Below w.heap.size w wr ∧ ∀ g, ob = some g → w.heap.size ≤ g

theorem str_one (l : List FM) : ∀ u ∈ l.map (fun f => Value.string f.name), u.oneCell' = true := by
  intro u hu; obtain ⟨f, _, rfl⟩ := List.mem_map.1 hu; rfl

set_option maxHeartbeats 1000000 in
theorem names_any {w : World} {d : Nat} {m : MD} {S : Nat → Prop} (h : DiskRep w d m S) (hn : m.fs.length ≤ 1099511627775) :
    Calls Try.prog 34 #[.pointer (some ⟨d, 0, none⟩)] w (RetNew w 9 1 m.fs.length (m.fs.map fun f => strV f.name)) := by
  obtain ⟨v, ga, fs, hl, rfl⟩ := h
  have hlen : m.fs.length = fs.length := by rw [hl.abs, List.length_map]
  have hmap : (m.fs.map fun f => strV f.name) = fs.map fun f => .string f.name := by rw [hl.abs, List.map_map]; rfl
  rw [hlen, hmap]
  have hfl : fs.length ≤ 1099511627776 := by omega
  have hc1 : w.cell? ⟨d, 1, none⟩ = some v := hl.disk.cell 1
  have H := Lib.hid hl
  clear hlen hmap hn
  rcases hl.arr.2 with ⟨rfl, h0, _⟩ | ⟨g, cap, cur, rfl, _, _, hcap, hcm, _⟩
  · have e : fs = [] := List.eq_nil_of_length_eq_zero h0
    subst e
    clear hl
    go_enter Try.func34, Try.ntmps34
    go_wp2
    refine wp_loop_rounds 1 ?_
    rw [rounds_succ]
    go_wp2_with fail
    go_ret
    exact ⟨_, _, rfl, Own.nil _ _ _, Below.refl _ _, fun g hg => by cases hg⟩
  · clear hl
    go_enter Try.func34, Try.ntmps34
    go_wp2
    go_loopw [3, 11] (fun vo vi wr => ∃ k : Nat, k ≤ fs.length ∧ vi = .int .i64 k ∧ NamesRel w fs k vo wr) (fun _ vi _ => fs.length - (intOf vi).toNat)
    case atStart => exact ⟨0, Nat.zero_le _, rfl, none, Own.nil _ _ _, Below.refl _ _, fun g hg => by cases hg⟩
    case round =>
      obtain ⟨k, hk, rfl, ob, h1, h2, h3⟩ := hrel
      have H1 := Lib.hid h1
      have H2 := Lib.hid h2
      have H3 := Lib.hid h3
      clear h1 h2 h3
      by_cases hlt : k < fs.length
      · have hl := H.out.upd (S := NoBlock) (Upd.of_below H2.out) (fun _ _ h => h)
        have c1 : wr.cell? ⟨g, k, none⟩ = some (.pointer (some ⟨(fs[k]).p, 0, none⟩)) := hl.arr.cellAt (by rw [List.getElem?_map, List.getElem?_eq_getElem hlt]; rfl)
        have c2 : wr.cell? ⟨(fs[k]).p, 0, none⟩ = some (.string (fs[k]).name) := (hl.files _ (List.getElem_mem hlt)).blk.cell 0
        have hs : (fs.take (k + 1)).map (fun f => Value.string f.name) = (fs.take k).map (fun f => Value.string f.name) ++ [.string (fs[k]).name] := by
          rw [List.take_succ_eq_append_getElem hlt, List.map_append]; rfl
        have HS := Lib.hid hs
        generalize (fs[k]).name = nm at *
        generalize (fs[k]).p = pp at *
        clear hl hs
        obtain ⟨va, vc, rfl⟩ := H1.out.shape
        go_wp2_with (at_builtin; refine wpList_append rfl _ _ _ rfl 9 1 16 _ Try.underlying40 infoStr rfl (by decide) k _ ob (H1.out.alloc _) 1 [.string nm] (rd_one (Blk.new _ _ _)) (by simp [Value.oneCell']) (by unfold maxLen; omega) (by omega) ?_
                     intro v' w2 ob' h2 h3 h4; have A2 := Lib.hid h2; have A3 := Lib.hid h3; have A4 := Lib.hid h4; clear h2 h3 h4)
        go_roundw
        case rel =>
          refine ⟨k + 1, by omega, by go_num, ob', ?_, ?_, ?_⟩
          · rw [HS.out]; exact A2.out
          · have hu : Upd (fun b => ob = some b) wr w2 := (((Upd.refl _ wr).alloc _).trans A3.out (fun b hb => .inl hb))
            exact Upd.toBelow ((Upd.of_below (S := NoBlock) H2.out).trans hu (fun b hb => .inr (H3.out b hb)))
          · exact fresh_of A4.out H3.out (Nat.le_trans H2.out.size (by simp))
        case measure => simp [intOf]; omega
      · obtain rfl : k = fs.length := by omega
        go_wp2
        go_ret
        have := H1.out
        rw [List.take_length] at this
        exact ⟨_, ob, rfl, this, H2.out, H3.out⟩
end Go.Proofs.Ytmfobcejnkakpaa
