/- The disk's search: strings.Compare, the binary search over the files, find. -/
import Derived.Test.YtmfobcejnkakpaaRows
import Derived.Test.YtmfobcejnkakpaaBase
namespace Go.Proofs.Ytmfobcejnkakpaa
set_option linter.unusedVariables false
set_option linter.unusedSimpArgs false
open Go.RowKit
set_option maxRecDepth 100000

theorem cmpString_any (a b : ByteArray) (w : World) :
    Calls Try.prog 133 #[.string a, .string b] w fun e w' => e = .returned (.int .i64 (Lib.compareBytes a.data.toList b.data.toList)) ∧ w' = w := by
  go_enter Try.func133, Try.ntmps133
  go_wp2
  rw [run_callFunc_extern Try.func137 (by kernel_rfl) (by kernel_rfl) (by kernel_rfl) (e := Extern.BytealgCompare.compare) (by kernel_rfl), Lib.run_compareString]
  simp only [Result.andThen]
  rw [Oper.upon_value]
  go_wp2
  go_ret
  exact ⟨rfl, rfl⟩

theorem scompare_any (a b : ByteArray) (w : World) :
    Calls Try.prog 125 #[.string a, .string b] w fun e w' => e = .returned (.int .i64 (Lib.compareBytes a.data.toList b.data.toList)) ∧ w' = w := by
  go_enter Try.func125, Try.ntmps125
  go_wp2_with (go_at_call 133; refine (cmpString_any _ _ _).mono ?_; rintro e w' ⟨rfl, rfl⟩)
  go_ret
  exact ⟨rfl, rfl⟩

theorem ret_ib {k : IntKind} {i j : Int} {a b : Bool} (h : i = j) (hb : a = b) : Ending.returned (.tuple #[.int k i, .bool a]) = .returned (.tuple #[.int k j, .bool b]) := by rw [h, hb]

theorem find1_any (p : Nat) (nm s : ByteArray) (w : World) (h : w.cell? ⟨p, 0, none⟩ = some (.string nm)) :
    Calls Try.prog 124 #[.pointer (some ⟨p, 0, none⟩), .string s] w fun e w' => e = .returned (.int .i64 (Lib.compareBytes nm.data.toList s.data.toList)) ∧ w' = w := by
  go_enter Try.func124, Try.ntmps124
  go_wp2_with (go_at_call 125; refine (scompare_any _ _ _).mono ?_; rintro e w' ⟨rfl, rfl⟩)
  go_ret
  exact ⟨rfl, rfl⟩

/-- a search by halves: c k is what the comparison tells of place k -/
theorem bsearch_any (g n cap : Nat) (ps : Nat → Nat) (nms : Nat → ByteArray) (s : ByteArray) (w : World) (hn : n ≤ 1152921504606846976)
    (hc : ∀ k, k < n → w.cell? ⟨g, k, none⟩ = some (.pointer (some ⟨ps k, 0, none⟩)))
    (hp : ∀ k, k < n → w.cell? ⟨ps k, 0, none⟩ = some (.string (nms k)))
    (hs : ∀ j k, j < k → k < n → Lib.compareBytes (nms k).data.toList s.data.toList < 0 → Lib.compareBytes (nms j).data.toList s.data.toList < 0) :
    Calls Try.prog 123 #[.slice (some ⟨g, 0, none⟩) n cap, .string s, .func (.func 124) #[] #[]] w fun e w' => w' = w ∧
      ∃ i : Nat, i ≤ n ∧ e = .returned (.tuple #[.int .i64 i, .bool (decide (i < n ∧ Lib.compareBytes (nms i).data.toList s.data.toList = 0))]) ∧
        (∀ k, k < i → Lib.compareBytes (nms k).data.toList s.data.toList < 0) ∧ (∀ k, i ≤ k → k < n → 0 ≤ Lib.compareBytes (nms k).data.toList s.data.toList) := by
  have HC := Lib.hid hc
  have HP := Lib.hid hp
  have HS := Lib.hid hs
  clear hc hp hs
  go_enter Try.func123, Try.ntmps123
  go_wp2_with fail
  go_loop [9, 10] (fun vi vj => ∃ i j : Nat, i ≤ j ∧ j ≤ n ∧ vi = .int .i64 i ∧ vj = .int .i64 j ∧ Hid (∀ k, k < i → Lib.compareBytes (nms k).data.toList s.data.toList < 0) ∧ Hid (∀ k, j ≤ k → k < n → 0 ≤ Lib.compareBytes (nms k).data.toList s.data.toList)) (fun vi vj => (intOf vj - intOf vi).toNat)
  case atStart => exact ⟨0, n, Nat.zero_le _, Nat.le_refl _, rfl, rfl, fun k hk => by omega, fun k h1 h2 => by omega⟩
  case round =>
    obtain ⟨i, j, hij, hjn, rfl, rfl, H1, H2⟩ := hrel
    by_cases hlt : i < j
    · have hcell : w.cell? ⟨g, (i + j) / 2, none⟩ = some (.pointer (some ⟨ps ((i + j) / 2), 0, none⟩)) := HC.out _ (by omega)
      have hname := HP.out ((i + j) / 2) (by omega)
      by_cases hcmp : Lib.compareBytes (nms ((i + j) / 2)).data.toList s.data.toList < 0
      all_goals
        go_wp2_with (go_at_call 124; refine (find1_any _ _ _ _ hname).mono ?_; rintro e w' ⟨rfl, rfl⟩)
      · go_round
        case rel => exact ⟨(i + j) / 2 + 1, j, by omega, hjn, by go_num, rfl, fun k hk => by
          by_cases hk' : k = (i + j) / 2
          · subst hk'; exact hcmp
          · exact HS.out k _ (by omega) (by omega) hcmp, H2⟩
        case measure => simp [intOf]; omega
      · go_round
        case rel => exact ⟨i, (i + j) / 2, by omega, by omega, rfl, by go_num, H1, fun k h1 h2 => by
          by_cases hk' : k = (i + j) / 2
          · subst hk'; omega
          · rcases Int.lt_or_le (Lib.compareBytes (nms k).data.toList s.data.toList) 0 with h | h
            · exact absurd (HS.out ((i + j) / 2) k (by omega) h2 h) (by omega)
            · exact h⟩
        case measure => simp [intOf]; omega
    · obtain rfl : i = j := by omega
      by_cases hin : i < n
      · have hcell : w.cell? ⟨g, i, none⟩ = some (.pointer (some ⟨ps i, 0, none⟩)) := HC.out _ (by omega)
        have hname := HP.out i (by omega)
        go_wp2_with (go_at_call 124; refine (find1_any _ _ _ _ hname).mono ?_; rintro e w' ⟨rfl, rfl⟩)
        go_ret2
        refine ⟨rfl, i, by omega, ?_, H1.out, H2.out⟩
        exact ret_ib rfl (by rw [Bool.eq_iff_iff]; simp [hin])
      · go_wp2_with fail
        go_ret2
        refine ⟨rfl, i, by omega, ?_, H1.out, H2.out⟩
        exact ret_ib rfl (by simp [hin])

theorem bsearch_nil (s : ByteArray) (w : World) :
    Calls Try.prog 123 #[.slice none 0 0, .string s, .func (.func 124) #[] #[]] w fun e w' => e = .returned (.tuple #[.int .i64 0, .bool false]) ∧ w' = w := by
  go_enter Try.func123, Try.ntmps123
  go_wp2_with fail
  refine wp_loop_rounds 1 ?_
  rw [rounds_succ]
  go_wp2_with fail
  go_ret2
  exact ⟨rfl, rfl⟩
end Go.Proofs.Ytmfobcejnkakpaa
