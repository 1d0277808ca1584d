/- Chapter 10: both ways to read a list tell the same. No program. Package manifest: Write, Read told. Numbers brought within bounds; layer 10's lists as they are made. Numbers as texts: manifest's and chapter 1's digits are the same. Chapter 4's own Put, All; layer 10's helpers. Layer 10's helpers: a fresh disk, a disk with a file; encodes, decodes. Layer 10: what its laws share. -/
import Derived.Test.YthgcdoahoechhaaMI
import Derived.Test.YthgcdoahoechhaaAm36
set_option linter.unusedVariables false
set_option linter.unusedSimpArgs false
namespace Go.Proofs.Ythgcdoahoechhaa
namespace Am
open Go.RowKit
set_option maxRecDepth 100000
end Am
end Go.Proofs.Ythgcdoahoechhaa
namespace Go.Proofs.Ythgcdoahoechhaa
namespace Am
open Go.RowKit
set_option maxRecDepth 100000
end Am
end Go.Proofs.Ythgcdoahoechhaa
namespace Go.Proofs.Ythgcdoahoechhaa
namespace Am
open Go.RowKit
set_option maxRecDepth 100000
def b_Within : BF := ⟨33, [0, 1, 2, 6, 14, 23], (.seq (.reg [.mk none (.slot 3) (.mov (.mv (.const (.int .i64 0))))]) (.seq (.seq (.reg [.mk none (.env 7) (.mov (.mv (.slot 0))), .mk none (.env 8) (.mov (.mv (.slot 1))), .mk none (.env 9) (.mov (.bin .geq .no (.env 7) (.env 8))), .mk none (.env 10) (.mov (.mv (.env 9))), .mk (some ((.env 10), true)) (.env 11) (.mov (.mv (.slot 0))), .mk (some ((.env 10), true)) (.env 12) (.mov (.mv (.slot 2))), .mk (some ((.env 10), true)) (.env 13) (.mov (.bin .leq .no (.env 11) (.env 12))), .mk none (.slot 4) (.mov (.pick (.env 10) (.env 13) (.const (.bool false))))]) (.cond (.slot 4) (.seq (.reg [.mk none (.env 15) (.mov (.mv (.slot 0))), .mk none (.slot 3) (.mov (.mv (.env 15)))]) .ret) .skip)) (.seq (.reg [.mk none (.env 16) (.mov (.mv (.slot 0))), .mk none (.env 17) (.mov (.mv (.slot 2))), .mk none (.env 18) (.mov (.mv (.slot 1))), .mk none (.env 19) (.mov (.bin .sub .no (.env 17) (.env 18))), .mk none (.env 20) (.mov (.bin .add .no (.env 19) (.const (.int .i64 1)))), .mk none (.env 21) (.mov (.bin .rem .no (.env 16) (.env 20))), .mk none (.slot 0) (.mov (.mv (.env 21)))]) (.seq (.seq (.reg [.mk none (.env 22) (.mov (.mv (.slot 0))), .mk none (.slot 5) (.mov (.bin .lss .no (.env 22) (.const (.int .i64 0))))]) (.cond (.slot 5) (.reg [.mk none (.env 24) (.mov (.mv (.slot 0))), .mk none (.env 25) (.mov (.mv (.slot 2))), .mk none (.env 26) (.mov (.bin .add .no (.env 24) (.env 25))), .mk none (.env 27) (.mov (.mv (.slot 1))), .mk none (.env 28) (.mov (.bin .sub .no (.env 26) (.env 27))), .mk none (.env 29) (.mov (.bin .add .no (.env 28) (.const (.int .i64 1)))), .mk none (.slot 0) (.mov (.mv (.env 29)))]) .skip)) (.seq (.reg [.mk none (.env 30) (.mov (.mv (.slot 1))), .mk none (.env 31) (.mov (.mv (.slot 0))), .mk none (.env 32) (.mov (.bin .add .no (.env 30) (.env 31))), .mk none (.slot 3) (.mov (.mv (.env 32)))]) .ret))))), [.slot (.slot 3)]⟩
def b_keepCut : BF := ⟨13, [0, 1, 4, 8], (.seq (.reg [.mk none (.slot 2) (.mov (.mv (.const .snil)))]) (.seq (.seq (.reg [.mk none (.env 5) (.mov (.mv (.slot 0))), .mk none (.env 6) (.mov (.lenv (.env 5))), .mk none (.env 7) (.mov (.mv (.slot 1))), .mk none (.slot 3) (.mov (.bin .gtr .no (.env 6) (.env 7)))]) (.cond (.slot 3) (.seq (.reg [.mk none (.env 9) (.mov (.mv (.slot 0))), .mk none (.env 10) (.mov (.mv (.slot 1))), .mk none (.env 11) (.mov (.sl 1 (.env 9) none (some (.env 10)) none)), .mk none (.slot 2) (.mov (.mv (.env 11)))]) .ret) .skip)) (.seq (.reg [.mk none (.env 12) (.mov (.mv (.slot 0))), .mk none (.slot 2) (.mov (.mv (.env 12)))]) .ret))), [.slot (.slot 2)]⟩
def withinF (n lo hi : Int) : Int := if lo ≤ n ∧ n ≤ hi then n else lo + (if n.tmod (hi - lo + 1) < 0 then n.tmod (hi - lo + 1) + hi - lo + 1 else n.tmod (hi - lo + 1))
theorem tmod_bounds {n m : Int} (hm : 0 < m) : -m < n.tmod m ∧ n.tmod m < m := by
  have h1 := Int.tmod_lt_of_pos n hm
  have h2 : -m < n.tmod m := by
    have := Int.tmod_lt_of_pos (-n) hm
    rw [Int.neg_tmod] at this
    omega
  exact ⟨h2, h1⟩
theorem withinF_in {n lo hi : Int} (h : lo ≤ hi) : lo ≤ withinF n lo hi ∧ withinF n lo hi ≤ hi := by
  unfold withinF
  split
  · assumption
  · have := tmod_bounds (n := n) (m := hi - lo + 1) (by omega)
    split <;> omega
section
variable {e : En} {t : List AV} {X : Type} {h : Hp X}
theorem v_rem {q : Eq} {x y : Od} {k : IntKind} {a b : Int} (hx : x.ev e t = .int k a) (hy : y.ev e t = .int k b) (hb : b ≠ 0) : (Mv.bin .rem q x y).ev e t h = some (.int k (a.tmod b)) := by
  simp [Mv.ev, hx, hy, Am.bin, AV.onInt, intOp, isShift, hb]
end
section
variable {X : Type} {E : Nat → Option (Ent X)}
theorem within_ok (hE : ∀ f e, E f = some e → e.plain) (hf : E 12 = some (.bc b_Within)) {h : Hp X} {n lo hi : Int} (hn : I64 n) (h1 : -1000000000 ≤ lo) (h2 : lo ≤ hi) (h3 : hi ≤ 1000000000) :
    WF (lim E) 12 [.int .i64 n, .int .i64 lo, .int .i64 hi] h fun r h' => h' = h ∧ r = .int .i64 (withinF n lo hi) := by
  refine wf_bc hE hf rfl ?_
  simp only [b_Within, List.map, getS]
  obtain ⟨n1, n2⟩ := hn
  unfold withinF
  by_cases c1 : lo ≤ n
  · by_cases c2 : n ≤ hi
    · rw [if_pos ⟨c1, c2⟩]
      repeat first|(refine BG ?_;first|(refine BH ?_;first|(refine BI ?_;refine BM ?_)|(refine BJ ?_;first|refine BN ?_|refine BO ?_)|refine BP ?_)|(refine BK ?_;first|refine BS rfl rfl ?_|refine BT rfl rfl ?_|refine BU rfl ?_)|(refine BL ?_;first|refine BQ ?_)|(refine BR ?_;try simp only [setS]))|refine AA ?_|refine AC ?_|refine AD ?_|refine AE ?_|refine AF rfl rfl ?_|refine AG rfl rfl ?_|refine AH ?_|refine AI ?_|refine AJ ?_|refine AK ?_|refine AL ?_|refine AM ?_|refine AN ?_|refine AO ?_|refine AP ?_|refine AQ rfl ?_|refine AR ?_|refine AS ?_|refine AT rfl ?_|refine AU rfl ?_
      exact ⟨rfl, rfl⟩
    · rw [if_neg (fun q => c2 q.2)]
      have := tmod_bounds (n := n) (m := hi - lo + 1) (by omega)
      by_cases c3 : n.tmod (hi - lo + 1) < 0
      · rw [if_pos c3]
        repeat first|(refine BG ?_;first|(refine BH ?_;first|(refine BI ?_;refine BM ?_)|(refine BJ ?_;first|refine BN ?_|refine BO ?_)|refine BV (v_rem rfl rfl (by omega)) ?_|refine BP ?_)|(refine BK ?_;first|refine BS rfl rfl ?_|refine BT rfl rfl ?_|refine BU rfl ?_)|(refine BL ?_;first|refine BQ ?_)|(refine BR ?_;try simp only [setS]))|refine AA ?_|refine AC ?_|refine AD ?_|refine AE ?_|refine AF rfl rfl ?_|refine AG rfl rfl ?_|refine AH ?_|refine AI ?_|refine AJ ?_|refine AK ?_|refine AL ?_|refine AM ?_|refine AN ?_|refine AO ?_|refine AP ?_|refine AQ rfl ?_|refine AR ?_|refine AS ?_|refine AT rfl ?_|refine AU rfl ?_
        exact ⟨rfl, rfl⟩
      · rw [if_neg c3]
        repeat first|(refine BG ?_;first|(refine BH ?_;first|(refine BI ?_;refine BM ?_)|(refine BJ ?_;first|refine BN ?_|refine BO ?_)|refine BV (v_rem rfl rfl (by omega)) ?_|refine BP ?_)|(refine BK ?_;first|refine BS rfl rfl ?_|refine BT rfl rfl ?_|refine BU rfl ?_)|(refine BL ?_;first|refine BQ ?_)|(refine BR ?_;try simp only [setS]))|refine AA ?_|refine AC ?_|refine AD ?_|refine AE ?_|refine AF rfl rfl ?_|refine AG rfl rfl ?_|refine AH ?_|refine AI ?_|refine AJ ?_|refine AK ?_|refine AL ?_|refine AM ?_|refine AN ?_|refine AO ?_|refine AP ?_|refine AQ rfl ?_|refine AR ?_|refine AS ?_|refine AT rfl ?_|refine AU rfl ?_
        exact ⟨rfl, rfl⟩
  · rw [if_neg (fun q => c1 q.1)]
    have := tmod_bounds (n := n) (m := hi - lo + 1) (by omega)
    by_cases c3 : n.tmod (hi - lo + 1) < 0
    · rw [if_pos c3]
      repeat first|(refine BG ?_;first|(refine BH ?_;first|(refine BI ?_;refine BM ?_)|(refine BJ ?_;first|refine BN ?_|refine BO ?_)|refine BV (v_rem rfl rfl (by omega)) ?_|refine BP ?_)|(refine BK ?_;first|refine BS rfl rfl ?_|refine BT rfl rfl ?_|refine BU rfl ?_)|(refine BL ?_;first|refine BQ ?_)|(refine BR ?_;try simp only [setS]))|refine AA ?_|refine AC ?_|refine AD ?_|refine AE ?_|refine AF rfl rfl ?_|refine AG rfl rfl ?_|refine AH ?_|refine AI ?_|refine AJ ?_|refine AK ?_|refine AL ?_|refine AM ?_|refine AN ?_|refine AO ?_|refine AP ?_|refine AQ rfl ?_|refine AR ?_|refine AS ?_|refine AT rfl ?_|refine AU rfl ?_
      exact ⟨rfl, rfl⟩
    · rw [if_neg c3]
      repeat first|(refine BG ?_;first|(refine BH ?_;first|(refine BI ?_;refine BM ?_)|(refine BJ ?_;first|refine BN ?_|refine BO ?_)|refine BV (v_rem rfl rfl (by omega)) ?_|refine BP ?_)|(refine BK ?_;first|refine BS rfl rfl ?_|refine BT rfl rfl ?_|refine BU rfl ?_)|(refine BL ?_;first|refine BQ ?_)|(refine BR ?_;try simp only [setS]))|refine AA ?_|refine AC ?_|refine AD ?_|refine AE ?_|refine AF rfl rfl ?_|refine AG rfl rfl ?_|refine AH ?_|refine AI ?_|refine AJ ?_|refine AK ?_|refine AL ?_|refine AM ?_|refine AN ?_|refine AO ?_|refine AP ?_|refine AQ rfl ?_|refine AR ?_|refine AS ?_|refine AT rfl ?_|refine AU rfl ?_
      exact ⟨rfl, rfl⟩
theorem cut_ok (hE : ∀ f e, E f = some e → e.plain) (hf : E 27 = some (.bc b_keepCut)) {h : Hp X} {v : AV} {bs : List UInt8} (hr : RS h 1 v bs.length (bs.map ub)) {n : Nat} (hn : n ≤ 1000000) :
    WF (lim E) 27 [v, .int .i64 n] h fun r h' => h' = h ∧ RS h 1 r (bs.take n).length ((bs.take n).map ub) ∧ (∀ k, blk r k → blk v k) ∧ (v ≠ .semp → r ≠ .semp) := by
  refine wf_bc hE hf rfl ?_
  simp only [b_keepCut, List.map, getS]
  by_cases hc : (n : Int) < bs.length
  · obtain ⟨v2, q1, q2, q3, q4⟩ := hr.bytes (lo := 0) (hi := n) (Nat.zero_le _) (by omega)
    rw [List.drop_zero, Nat.sub_zero] at q1
    repeat first|(refine BG ?_;first|(refine BH ?_;first|(refine BI ?_;refine BM ?_)|(refine BJ ?_;first|refine BN ?_|refine BO ?_)|refine BV (hr.lenv (by rfl)) ?_|refine BV (q4 (by rfl) (.inl ⟨rfl, rfl⟩) (.inr ⟨_, _, rfl, rfl⟩)) ?_|refine BP ?_)|(refine BK ?_;first|refine BS rfl rfl ?_|refine BT rfl rfl ?_|refine BU rfl ?_)|(refine BL ?_;first|refine BQ ?_)|(refine BR ?_;try simp only [setS]))|refine AA ?_|refine AC ?_|refine AD ?_|refine AE ?_|refine AF rfl rfl ?_|refine AG rfl rfl ?_|refine AH ?_|refine AI ?_|refine AJ ?_|refine AK ?_|refine AL ?_|refine AM ?_|refine AN ?_|refine AO ?_|refine AP ?_|refine AQ rfl ?_|refine AR ?_|refine AS ?_|refine AT rfl ?_|refine AU rfl ?_
    exact ⟨rfl, q1, q2, q3⟩
  · repeat first|(refine BG ?_;first|(refine BH ?_;first|(refine BI ?_;refine BM ?_)|(refine BJ ?_;first|refine BN ?_|refine BO ?_)|refine BV (hr.lenv (by rfl)) ?_|refine BP ?_)|(refine BK ?_;first|refine BS rfl rfl ?_|refine BT rfl rfl ?_|refine BU rfl ?_)|(refine BL ?_;first|refine BQ ?_)|(refine BR ?_;try simp only [setS]))|refine AA ?_|refine AC ?_|refine AD ?_|refine AE ?_|refine AF rfl rfl ?_|refine AG rfl rfl ?_|refine AH ?_|refine AI ?_|refine AJ ?_|refine AK ?_|refine AL ?_|refine AM ?_|refine AN ?_|refine AO ?_|refine AP ?_|refine AQ rfl ?_|refine AR ?_|refine AS ?_|refine AT rfl ?_|refine AU rfl ?_
    refine ⟨rfl, ?_, fun k q => q, fun q => q⟩
    rw [List.take_of_length_le (by omega)]
    exact hr
end
end Am
end Go.Proofs.Ythgcdoahoechhaa
namespace Go.Proofs.Ythgcdoahoechhaa
namespace Am
open Go.RowKit
set_option maxRecDepth 100000
end Am
end Go.Proofs.Ythgcdoahoechhaa
namespace Go.Proofs.Ythgcdoahoechhaa
namespace Am
open Go.RowKit
set_option maxRecDepth 100000
end Am
end Go.Proofs.Ythgcdoahoechhaa
namespace Go.Proofs.Ythgcdoahoechhaa
namespace Am
open Go.RowKit
set_option maxRecDepth 100000
end Am
end Go.Proofs.Ythgcdoahoechhaa
namespace Go.Proofs.Ythgcdoahoechhaa
namespace Am
open Go.RowKit
set_option maxRecDepth 100000
theorem spl_one {o : Nat} {c : AV} {l : List AV} (ho : o < l.length) : spl o [c] l = l.set o c := by
  unfold spl
  rw [List.set_eq_take_append_cons_drop, if_pos ho]
  simp
section
variable {X : Type} {h : Hp X}
theorem OS.set {n k : Nat} {v c : AV} {cells : List AV} (a : OS h 1 v n cells) (hk : k < n) : ∃ g o l, (∀ {hh : Hp X} {e : En} {t : List AV} {x y : Od} {kk : IntKind}, x.ev e t = v → y.ev e t = .int kk (k : Int) → (Mv.iaddr 1 x y).ev e t hh = some (.ptr g o)) ∧
    Bx h g l ∧ o < l.length ∧ l[o]? = cells[k]? ∧ OS (h.put g (.rw (spl o [c] l))) 1 v n (cells.set k c) ∧ blk v g := by
  cases v <;> first | exact a.elim | skip
  · rename_i z g o m cap
    obtain ⟨rfl, rfl, hz, hg, l, hl, hle, rfl, hcap⟩ := a
    refine ⟨g, o + k * 1, l, fun {hh e t x y kk} hx hy => ?_, ⟨hg, hl⟩, by omega, ?_, ⟨rfl, rfl, hz, hg, _, Hp.put_self _ _ _, ?_, ?_, ?_⟩, rfl⟩
    · simp only [Mv.ev, hx, hy, nOf]
      rw [show Nat.blt k m = true by rw [Nat.blt_eq]; exact hk]
      rfl
    · rw [List.getElem?_take_of_lt (by omega), List.getElem?_drop, Nat.mul_one]
    · rw [spl_one (by omega), List.length_set]; exact hle
    · rw [spl_one (by omega), Nat.mul_one, List.drop_set, if_neg (by omega), List.take_set, Nat.add_sub_cancel_left, Nat.mul_one]
    · rw [spl_one (by omega), List.length_set]; exact hcap
  · obtain ⟨rfl, _⟩ := a; omega
theorem v_seq_t {e : En} {t : List AV} {q : Eq} {x y : Od} {a b : List UInt8} (hx : x.ev e t = .str a) (hy : y.ev e t = .str b) (hab : a = b) : (Mv.bin .eql q x y).ev e t h = some (.bool true) := by
  rw [v_seql hx hy, hab]
  simp
end
structure LBx (h : Hp MD) (g : Nat) (hi : Nat) (l : List Int) (w n : Int) : Prop where
  out : ∃ tv, Bx h g [tv, .int .i64 w, .int .i64 n] ∧ RS h 1 tv l.length (l.map iv) ∧ ∀ k, blk tv k → k < hi
theorem LBx.up {h h' : Hp MD} {g hi : Nat} {l : List Int} {w n : Int} (a : LBx h g hi l w n) (k : Keep NoB h h') : LBx h' g hi l w n := by
  obtain ⟨tv, h1, h2, h3⟩ := a.out
  exact ⟨⟨tv, h1.up k, h2.up k, h3⟩⟩
theorem LBx.keep {S : Nat → Prop} {h h' : Hp MD} {g hi : Nat} {l : List Int} {w n : Int} (a : LBx h g hi l w n) (k : Keep S h h') (hg : ¬ S g) (hs : ∀ j, S j → hi ≤ j) : LBx h' g hi l w n := by
  obtain ⟨tv, h1, h2, h3⟩ := a.out
  exact ⟨⟨tv, h1.keep k hg, h2.keep k (fun j q1 q2 => by have := h3 j q1; have := hs j q2; omega), h3⟩⟩
theorem LBx.lt {h : Hp MD} {g hi : Nat} {l : List Int} {w n : Int} (a : LBx h g hi l w n) : g < h.n := by
  obtain ⟨tv, h1, _⟩ := a.out
  exact h1.lt
end Am
end Go.Proofs.Ythgcdoahoechhaa
