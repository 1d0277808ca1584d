/- Layer 3's statements: the runs of the chapter (known). -/
import Derived.Test.YtmfobcejnkakpaaDisk9
import Derived.Lib.SlBytesConst
namespace Go.Proofs.Ytmfobcejnkakpaa
set_option linter.unusedVariables false
set_option linter.unusedSimpArgs false
open Go.RowKit
set_option maxRecDepth 100000

theorem convStr {w : World} {v : Value} {b : Bs} (h : Rd w 1 v b.length (b.map bv)) : (convert 22 9 v).run Try.prog w = .ok (.string (bsv b)) w :=
  run_convStr Try.underlying22 Try.underlying5 Try.underlying9 h

/-- a list of bytes that was written out ('[]byte("..")') -/
theorem rd_lit (w : World) (l : Bs) (fr : Nat × Nat) (hl : l.length ≤ 1000000) : Rd (w.alloc (.cells (l.map bv).toArray 5 fr)) 1 (.slice (some ⟨w.heap.size, 0, none⟩) l.length l.length) l.length (l.map bv) := by
  refine ⟨by simp, by unfold maxLen; omega, some ⟨w.heap.size, 0, none⟩, l.length, rfl, Nat.le_refl _, by unfold maxLen; omega, (fun h => by cases h), fun ad had => ?_⟩
  cases had
  refine ⟨fun _ => rfl, fun j u hu => ?_⟩
  rw [Addr.add_lit, Nat.zero_add]
  have : (w.alloc (.cells (l.map bv).toArray 5 fr)).heap[w.heap.size]? = some (.cells (l.map bv).toArray 5 fr) := heap_alloc_new w _
  simp only [World.cell?, this]
  simpa using hu
def k1 : MD := ⟨100, 0, false, [⟨[97], [], 0⟩]⟩
def k2 : MD := ⟨100, 0, false, [⟨[97], [120, 121], 0⟩]⟩
def k3 : MD := ⟨100, 0, false, [⟨[97], [120], 1⟩]⟩

set_option maxHeartbeats 1000000 in
theorem known3_any (w0 w : World) (hb : Below w0.heap.size w0 w) : Calls Try.prog 27 #[] w fun e w' => e = .returned (.bool true) ∧ Below w0.heap.size w0 w' := by
  have HB := Lib.hid hb
  clear hb
  have kc := fun (w : World) (C : Array Value) (n c : Nat) => Lib.run_convert_bytes_const (P := Try.prog) w 22 5 C n c Try.underlying22 Try.underlying5
  go_enter Try.func27, Try.ntmps27
  go_wp2_with fail
  refine (new_at HB.out 100 (by omega) (by omega)).mono ?_
  rintro e w1 ⟨d, S1, rfl, h1⟩
  have H1 := Lib.hid h1
  clear h1
  go_wp2_with fail
  refine (create_at H1.out (by decide) _ (show _ = ((0 : Int), k1) from rfl)).mono ?_
  rintro e w2 ⟨rfl, S2, h2⟩
  have H2 := Lib.hid h2
  clear h2 H1
  go_wp2_with fail
  refine (append_at (H2.out.alloc _) (by decide) _ _ [120, 121] (rd_lit _ [120, 121] _ (by decide)) (fun _ g hg hs => by cases hg; exact absurd (H2.out.lt hs) (Nat.lt_irrefl _)) (show _ = ((0 : Int), k2) from rfl)).mono ?_
  rintro e w3 ⟨rfl, S3, h3⟩
  have H3 := Lib.hid h3
  clear h3 H2
  go_wp2_with fail
  refine (crash_at H3.out (by decide) 1 (by omega) (by omega) (show _ = k3 from rfl)).mono ?_
  rintro e w4 ⟨rfl, S4, h4⟩
  have H4 := Lib.hid h4
  clear h4 H3
  go_wp2_with fail
  refine (read_some H4.out (by decide) _ (show _ = some (⟨[97], [120], 1⟩ : MF) from rfl)).mono ?_
  rintro e w5 ⟨v5, ob5, rfl, h5, h6, h7⟩
  obtain ⟨a5, c5, rfl⟩ := h5.shape
  have hq : (convert 22 9 (.slice a5 1 c5)).run Try.prog w5 = .ok (.string (bsv [120])) w5 := convStr (b := [120]) h5.rd
  have H5 := Lib.hid (H4.out.mem h6)
  clear h5 h6 h7 H4
  go_wp2_with fail
  refine (append_at (H5.out) (by decide) _ _ [] (rd_nil _ _) (fun _ g hg => by cases hg) (show _ = ((22 : Int), k3) from rfl)).mono ?_
  rintro e w6 ⟨rfl, S6, h6⟩
  have H6 := Lib.hid h6
  clear h6 H5
  go_wp2_with fail
  refine (rename_at H6.out (by decide) _ _ (show _ = ((0 : Int), k3) from rfl)).mono ?_
  rintro e w7 ⟨rfl, S7, h7⟩
  have H7 := Lib.hid h7
  clear h7 H6
  go_wp2_with fail
  go_ret
  exact ⟨rfl, H7.out.below⟩
end Go.Proofs.Ytmfobcejnkakpaa
