/- Layer 3's statements: the names of the asks' files; lists of names compared; the asks as they are read. -/
import Derived.Test.YthgcdoahoechhaaL3a
import Derived.Test.YthgcdoahoechhaaMH
import Derived.Deep.LoopGhost
import Derived.Lib.Split
set_option linter.unusedVariables false
set_option linter.unusedSimpArgs false
namespace Go.Proofs.Ythgcdoahoechhaa
open Go.ChangeShapes Go.WideShapes Go.RowKit Go.Deep
set_option maxRecDepth 100000
structure AskM where
  kind : Int
  f : Int
  g : Int
  n : Int
  b : Row3
  s : ByteArray
def i64ok (n : Int) : Prop := -9223372036854775808 ≤ n ∧ n ≤ 9223372036854775807
def askCells (x : AskM) : List Value := [.int .i64 x.kind, .int .i64 x.f, .int .i64 x.g, .int .i64 x.n, rowV x.b, .string x.s]
structure AskIn (w : World) (x : AskM) : Prop where
  kind : i64ok x.kind
  f : i64ok x.f
  g : i64ok x.g
  n : i64ok x.n
  b : RowIn w x.b
  s : x.s.size ≤ maxLen
theorem ask_under : ∃ fs, Try.prog.underlying 35 = some (.struct fs) ∧ fs.map (fun f => f.type) = #[3, 3, 3, 3, 33, 9] ∧ oneCellFields Try.prog fs = true := ⟨_, Try.underlying35, by simp, by kernel_rfl⟩
theorem ask_cells : Try.prog.cellsOf 35 = 6 := by kernel_rfl
theorem u8_cells : Try.prog.cellsOf 5 = 1 := by kernel_rfl
theorem six {α : Type} {l : List α} (h : l.length = 6) : ∃ a b c d e f, l = [a, b, c, d, e, f] := by
  match l, h with
  | [a, b, c, d, e, f], _ => exact ⟨a, b, c, d, e, f, rfl⟩
theorem open_asks {H : Type} {enc : TypeId × Value → H} {W : World} {v : Value} {d : DataW H} {ps : List MemPlace} (hok : ∃ a len cap, v = .slice a len cap) (h : DataW.Trod enc Try.prog W 0 (fun _ => true) true 22 v d ps) :
    ∃ (a : Option Addr) (qs : List AskM) (c : Nat), v = .slice a qs.length c ∧ Rd W 6 (.slice a qs.length c) qs.length (qs.map askCells).flatten ∧ ∀ x ∈ qs, AskIn W x := by
  obtain ⟨fs, hu, ht, hone⟩ := ask_under
  have hsz : fs.size = 6 := by have := congrArg Array.size ht; simpa using this
  have hty : ∀ (i : Nat) (t : TypeId), (#[3, 3, 3, 3, 33, 9] : Array TypeId)[i]? = some t → ∃ f : Field, fs[i]? = some f ∧ f.type = t := by
    intro i t hi
    rw [← ht, Array.getElem?_map] at hi
    exact Option.map_eq_some_iff.1 hi
  obtain ⟨a, vs, c, hv, hr, hx⟩ := open_structs Try.underlying22 hu hone (by rw [ask_cells, hsz]) (by omega) hok h
  rw [hsz] at hr
  obtain ⟨qs, rfl, h2⟩ := list_of (f := askCells) (q := AskIn W) (xs := vs) fun cs hcs => by
    obtain ⟨hl, hf⟩ := hx cs hcs
    rw [hsz] at hl
    obtain ⟨x0, x1, x2, x3, x4, x5, rfl⟩ := six hl
    obtain ⟨f0, g0, t0⟩ := hty 0 3 rfl
    obtain ⟨f1, g1, t1⟩ := hty 1 3 rfl
    obtain ⟨f2, g2, t2⟩ := hty 2 3 rfl
    obtain ⟨f3, g3, t3⟩ := hty 3 3 rfl
    obtain ⟨f4, g4, t4⟩ := hty 4 33 rfl
    obtain ⟨f5, g5, t5⟩ := hty 5 9 rfl
    obtain ⟨_, _, r0⟩ := hf 0 f0 g0
    obtain ⟨_, _, r1⟩ := hf 1 f1 g1
    obtain ⟨_, _, r2⟩ := hf 2 f2 g2
    obtain ⟨_, _, r3⟩ := hf 3 f3 g3
    obtain ⟨n4, ⟨d4, p4⟩, r4⟩ := hf 4 f4 g4
    obtain ⟨_, _, r5⟩ := hf 5 f5 g5
    rw [t0] at r0; rw [t1] at r1; rw [t2] at r2; rw [t3] at r3; rw [t4] at r4; rw [t5] at r5
    obtain ⟨k0, e0, _, w0⟩ := DataW.trod_int Try.underlying3 r0
    obtain ⟨k1, e1, _, w1⟩ := DataW.trod_int Try.underlying3 r1
    obtain ⟨k2, e2, _, w2⟩ := DataW.trod_int Try.underlying3 r2
    obtain ⟨k3, e3, _, w3⟩ := DataW.trod_int Try.underlying3 r3
    obtain ⟨s, e5, _, w5⟩ := DataW.trod_string Try.underlying9 r5
    simp at e0 e1 e2 e3 e5
    subst e0 e1 e2 e3 e5
    simp only [List.getD_cons_succ, List.getD_cons_zero] at r4
    obtain ⟨a0, len, cap, rfl⟩ := shape_of Try.underlying33 r4
    obtain ⟨ab, l, cb, hvb, hrb⟩ := open_bytes Try.underlying33 Try.underlying5 u8_cells ⟨_, _, _, rfl⟩ (show DataW.Trod enc Try.prog W 0 (fun _ => true) true 33 (.slice a0 len cap) d4 p4 from ⟨n4, r4⟩)
    exact ⟨⟨k0, k1, k2, k3, (ab, l, cb), s⟩, by rw [hvb]; rfl, ⟨i64_of w0, i64_of w1, i64_of w2, i64_of w3, hrb, w5⟩⟩
  rw [List.length_map] at hv hr
  exact ⟨a, qs, c, hv, hr, h2⟩
end Go.Proofs.Ythgcdoahoechhaa
