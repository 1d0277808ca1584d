/- Layer 3's statements: the names of the asks' files; lists of names compared; the asks as they are read. -/
import Derived.Test.YtmfobcejnkakpaaL3a
import Derived.Test.YtmfobcejnkakpaaOpen
import Derived.Deep.LoopGhost
import Derived.Lib.Split
namespace Go.Proofs.Ytmfobcejnkakpaa
set_option linter.unusedVariables false
set_option linter.unusedSimpArgs false
open Go.ChangeShapes Go.WideShapes Go.RowKit Go.Deep
set_option maxRecDepth 100000

/-- an ask -/
structure AskM where
  kind : Int
  f : Int
  g : Int
  n : Int
  b : Row3
  s : ByteArray
def i64ok (n : Int) : Prop := -9223372036854775808 ≤ n ∧ n ≤ 9223372036854775807
def askCells (x : AskM) : List Value := [.int .i64 x.kind, .int .i64 x.f, .int .i64 x.g, .int .i64 x.n, rowV x.b, .string x.s]
structure AskIn (w : World) (x : AskM) : Prop where
  kind : i64ok x.kind
  f : i64ok x.f
  g : i64ok x.g
  n : i64ok x.n
  b : RowIn w x.b
  s : x.s.size ≤ maxLen
/-- the name of a file: 'file' of the statements -/
def fileN (n : Int) (s : Bs) : Bs :=
  if n = 0 then [97] else if n = 1 then [98] else if n = 2 then [110, 101, 119] else if n = 3 then [108, 105, 115, 116] else if n = 4 then [116, 49] else s.take 40
theorem head_eq (s : ByteArray) : s.extract 0 40 = bsv (s.data.toList.take 40) := bytes_inj (by rw [Lib.extract_from_zero]; simp [bsv])
theorem head_short (s : ByteArray) (h : s.size ≤ 40) : s = bsv (s.data.toList.take 40) := bytes_inj (by rw [List.take_of_length_le (by simpa using h)]; simp [bsv])
theorem head_any (s : ByteArray) (w : World) (hs : s.size ≤ maxLen) : Calls Try.prog 73 #[.string s, .int .i64 40] w fun e w' => e = .returned (.string (bsv (s.data.toList.take 40))) ∧ w' = w := by
  unfold maxLen at hs
  by_cases h : 40 < s.size
  · rw [← head_eq]
    go_enter Try.func73, Try.ntmps73
    go_wp2
    go_ret
    exact ⟨rfl, rfl⟩
  · rw [← head_short s (by omega)]
    go_enter Try.func73, Try.ntmps73
    go_wp2
    go_ret
    exact ⟨rfl, rfl⟩
set_option maxHeartbeats 1000000 in
theorem file_any (n : Int) (s : ByteArray) (w : World) (hs : s.size ≤ maxLen) : Calls Try.prog 35 #[.int .i64 n, .string s] w fun e w' => e = .returned (.string (bsv (fileN n s.data.toList))) ∧ Below w.heap.size w w' := by
  by_cases h : 0 ≤ n ∧ n < 5
  · have : n = 0 ∨ n = 1 ∨ n = 2 ∨ n = 3 ∨ n = 4 := by omega
    clear h
    rcases this with rfl | rfl | rfl | rfl | rfl
    all_goals
      go_enter Try.func35, Try.ntmps35
      go_wp2
      go_ret
      exact ⟨rfl, (Below.refl _ _).alloc (Nat.le_refl _) _⟩
  · have e : fileN n s.data.toList = s.data.toList.take 40 := by
      unfold fileN
      rw [if_neg (by omega), if_neg (by omega), if_neg (by omega), if_neg (by omega), if_neg (by omega)]
    rw [e]
    rcases (show n < 0 ∨ (0 ≤ n ∧ 5 ≤ n) by omega) with h | ⟨h0, h⟩
    all_goals
      go_enter Try.func35, Try.ntmps35
      go_wp2_with (go_at_call 73; refine (head_any _ _ hs).mono ?_; rintro e w' ⟨rfl, rfl⟩)
      go_ret
      exact ⟨rfl, (Below.refl _ _).alloc (Nat.le_refl _) _⟩

set_option maxHeartbeats 1000000 in
/-- Same: of a list and one that reads alike -/
theorem sameStr_any {w : World} {aa ab : Option Addr} {ca cb : Nat} {xs : List Bs} (ha : Rd w 1 (.slice aa xs.length ca) xs.length (xs.map strV)) (hb : Rd w 1 (.slice ab xs.length cb) xs.length (xs.map strV)) :
    Calls Try.prog 37 #[.slice aa xs.length ca, .slice ab xs.length cb] w fun e w' => e = .returned (.bool true) ∧ Below w.heap.size w w' := by
  have HA := Lib.hid ha
  have HB := Lib.hid hb
  have hla : xs.length ≤ ca ∧ ca ≤ maxLen := by
    obtain ⟨_, _, _, _, hv, h3, h4, _⟩ := ha
    simp only [Value.slice.injEq] at hv
    obtain ⟨_, _, rfl⟩ := hv
    exact ⟨h3, h4⟩
  unfold maxLen at hla
  clear ha hb
  go_enter Try.func37, Try.ntmps37
  go_wp2_with fail
  go_loopg [5] xs.length (fun g s5 wr => ∃ k : Nat, k ≤ xs.length ∧ g = xs.length - k ∧ s5 = .int .i64 k ∧ Below w.heap.size w wr)
  case atStart => exact ⟨0, by omega, by omega, rfl, Below.refl _ _⟩
  case round =>
    obtain ⟨k, hk, rfl, rfl, hbw⟩ := hrel
    have HW := Lib.hid hbw
    clear hbw
    by_cases hlt : k < xs.length
    · have q1 : (k : Int) < xs.length := by omega
      obtain ⟨ba, oa, rfl, _, _, _, hca⟩ := (HA.out.below HW.out).addr (by omega)
      obtain ⟨bb, ob, rfl, _, _, _, hcb⟩ := (HB.out.below HW.out).addr (by omega)
      have c1 := hca k (strV xs[k]) (by rw [List.getElem?_map, List.getElem?_eq_getElem hlt]; rfl)
      have c2 := hcb k (strV xs[k]) (by rw [List.getElem?_map, List.getElem?_eq_getElem hlt]; rfl)
      unfold strV at c1 c2
      clear hca hcb
      go_wp2_with fail
      go_quiet (fail)
      go_wp2_with fail
      go_roundg (xs.length - (k + 1))
      case measure => omega
      case rel => exact ⟨k + 1, by omega, rfl, by go_num, HW.out.trans ⟨rfl, rfl, rfl, Nat.le_refl _, fun _ _ => rfl⟩⟩
    · obtain rfl : k = xs.length := by omega
      go_wp2_with fail
      go_ret
      exact ⟨rfl, HW.out⟩

theorem sameStr_of {w : World} {aa ab : Option Addr} {ca cb n : Nat} {xs : List Bs} (hn : n = xs.length) (ha : Rd w 1 (.slice aa n ca) n (xs.map strV)) (hb : Rd w 1 (.slice ab n cb) n (xs.map strV)) :
    Calls Try.prog 37 #[.slice aa n ca, .slice ab n cb] w fun e w' => e = .returned (.bool true) ∧ Below w.heap.size w w' := by
  subst hn
  exact sameStr_any ha hb
theorem ask_under : ∃ fs, Try.prog.underlying 48 = some (.struct fs) ∧ fs.map (fun f => f.type) = #[3, 3, 3, 3, 22, 9] ∧ oneCellFields Try.prog fs = true := ⟨_, Try.underlying48, by simp, by kernel_rfl⟩
theorem ask_cells : Try.prog.cellsOf 48 = 6 := by kernel_rfl
theorem u8_cells : Try.prog.cellsOf 5 = 1 := by kernel_rfl
theorem six {α : Type} {l : List α} (h : l.length = 6) : ∃ a b c d e f, l = [a, b, c, d, e, f] := by
  match l, h with
  | [a, b, c, d, e, f], _ => exact ⟨a, b, c, d, e, f, rfl⟩
theorem open_asks {H : Type} {enc : TypeId × Value → H} {W : World} {v : Value} {d : DataW H} {ps : List MemPlace} (hok : ∃ a len cap, v = .slice a len cap) (h : DataW.Trod enc Try.prog W 0 (fun _ => true) true 45 v d ps) :
    ∃ (a : Option Addr) (qs : List AskM) (c : Nat), v = .slice a qs.length c ∧ Rd W 6 (.slice a qs.length c) qs.length (qs.map askCells).flatten ∧ ∀ x ∈ qs, AskIn W x := by
  obtain ⟨fs, hu, ht, hone⟩ := ask_under
  have hsz : fs.size = 6 := by have := congrArg Array.size ht; simpa using this
  have hty : ∀ (i : Nat) (t : TypeId), (#[3, 3, 3, 3, 22, 9] : Array TypeId)[i]? = some t → ∃ f : Field, fs[i]? = some f ∧ f.type = t := by
    intro i t hi
    rw [← ht, Array.getElem?_map] at hi
    exact Option.map_eq_some_iff.1 hi
  obtain ⟨a, vs, c, hv, hr, hx⟩ := open_structs Try.underlying45 hu hone (by rw [ask_cells, hsz]) (by omega) hok h
  rw [hsz] at hr
  obtain ⟨qs, rfl, h2⟩ := list_of (f := askCells) (q := AskIn W) (xs := vs) fun cs hcs => by
    obtain ⟨hl, hf⟩ := hx cs hcs
    rw [hsz] at hl
    obtain ⟨x0, x1, x2, x3, x4, x5, rfl⟩ := six hl
    obtain ⟨f0, g0, t0⟩ := hty 0 3 rfl
    obtain ⟨f1, g1, t1⟩ := hty 1 3 rfl
    obtain ⟨f2, g2, t2⟩ := hty 2 3 rfl
    obtain ⟨f3, g3, t3⟩ := hty 3 3 rfl
    obtain ⟨f4, g4, t4⟩ := hty 4 22 rfl
    obtain ⟨f5, g5, t5⟩ := hty 5 9 rfl
    obtain ⟨_, _, r0⟩ := hf 0 f0 g0
    obtain ⟨_, _, r1⟩ := hf 1 f1 g1
    obtain ⟨_, _, r2⟩ := hf 2 f2 g2
    obtain ⟨_, _, r3⟩ := hf 3 f3 g3
    obtain ⟨n4, ⟨d4, p4⟩, r4⟩ := hf 4 f4 g4
    obtain ⟨_, _, r5⟩ := hf 5 f5 g5
    rw [t0] at r0; rw [t1] at r1; rw [t2] at r2; rw [t3] at r3; rw [t4] at r4; rw [t5] at r5
    obtain ⟨k0, e0, _, w0⟩ := DataW.trod_int Try.underlying3 r0
    obtain ⟨k1, e1, _, w1⟩ := DataW.trod_int Try.underlying3 r1
    obtain ⟨k2, e2, _, w2⟩ := DataW.trod_int Try.underlying3 r2
    obtain ⟨k3, e3, _, w3⟩ := DataW.trod_int Try.underlying3 r3
    obtain ⟨s, e5, _, w5⟩ := DataW.trod_string Try.underlying9 r5
    simp at e0 e1 e2 e3 e5
    subst e0 e1 e2 e3 e5
    simp only [List.getD_cons_succ, List.getD_cons_zero] at r4
    obtain ⟨a0, len, cap, rfl⟩ := shape_of Try.underlying22 r4
    obtain ⟨ab, l, cb, hvb, hrb⟩ := open_bytes Try.underlying22 Try.underlying5 u8_cells ⟨_, _, _, rfl⟩ (show DataW.Trod enc Try.prog W 0 (fun _ => true) true 22 (.slice a0 len cap) d4 p4 from ⟨n4, r4⟩)
    exact ⟨⟨k0, k1, k2, k3, (ab, l, cb), s⟩, by rw [hvb]; rfl, ⟨i64_of w0, i64_of w1, i64_of w2, i64_of w3, hrb, w5⟩⟩
  rw [List.length_map] at hv hr
  exact ⟨a, qs, c, hv, hr, h2⟩
/-- an ask's cells -/
theorem ask_cell {W : World} {a : Option Addr} {c : Nat} {qs : List AskM} (h : Rd W 6 (.slice a qs.length c) qs.length (qs.map askCells).flatten) (hp : 0 < qs.length) :
    ∃ (b o : Nat), a = some ⟨b, o, none⟩ ∧ b < W.heap.size ∧ qs.length ≤ c ∧ c ≤ maxLen ∧ ∀ (k : Nat) (hk : k < qs.length) (i : Nat) (u : Value), (askCells qs[k])[i]? = some u → W.cell? ⟨b, o + (k * 6 + i), none⟩ = some u := by
  have h' := h
  obtain ⟨h1, h2, a', c', hv, h3, h4, h5, h6⟩ := h
  simp only [Value.slice.injEq] at hv
  obtain ⟨rfl, _, rfl⟩ := hv
  cases a with
  | none => have := (h5 rfl).1; omega
  | some ad =>
    obtain ⟨hsp, hc⟩ := h6 ad rfl
    have hs := hsp hp
    obtain ⟨b, o, sp⟩ := ad
    simp only at hs
    subst hs
    refine ⟨b, o, rfl, h'.old (by omega) b rfl, h3, h4, fun k hk i u hu => ?_⟩
    refine h'.cell rfl ?_
    have hi : i < 6 := by have := (List.getElem?_eq_some_iff.1 hu).1; simpa [askCells] using this
    rw [flatten_at (z := 6) (by omega) (fun x hx => by obtain ⟨y, _, rfl⟩ := List.mem_map.1 hx; rfl), show (k * 6 + i) / 6 = k by omega, show (k * 6 + i) % 6 = i by omega, List.getElem?_map, List.getElem?_eq_getElem hk]
    exact hu
end Go.Proofs.Ytmfobcejnkakpaa
