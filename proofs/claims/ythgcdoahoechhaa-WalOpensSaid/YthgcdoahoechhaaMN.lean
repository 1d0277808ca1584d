/- Package frame: a record's head, and a record put behind others. Package frame: the records of a row of bytes. Package frame: bytes that are read, where they lack a panic. -/
import Derived.Test.YthgcdoahoechhaaMH
set_option linter.unusedVariables false
set_option linter.unusedSimpArgs false
namespace Go.Proofs.Ythgcdoahoechhaa
namespace Am
open Go.RowKit
set_option maxRecDepth 100000
def b_frLength : BF := ⟨36, [0, 2, 3, 4, 5, 6, 19], (.seq (.reg [.mk none (.slot 1) (.mov (.mv (.const (.int .i64 0)))), .mk none (.slot 2) (.mov (.mv (.const (.bool false))))]) (.seq (.reg [.mk none (.env 9) (.mov (.mv (.slot 0))), .mk none (.env 10) (.call 112 [(.env 9), (.const (.int .i64 3))]), .mk none (.env 8) (.mov (.mv (.env 10))), .mk none (.env 11) (.mov (.ext 0 (.env 8))), .mk none (.env 12) (.mov (.ext 1 (.env 8))), .mk none (.slot 3) (.mov (.mv (.env 11))), .mk none (.slot 4) (.mov (.mv (.env 12)))]) (.seq (.seq (.reg [.mk none (.env 13) (.mov (.mv (.slot 4))), .mk none (.env 14) (.mov (.notb (.env 13))), .mk none (.env 15) (.mov (.mv (.env 14))), .mk (some ((.env 15), false)) (.env 16) (.mov (.mv (.slot 0))), .mk (some ((.env 15), false)) (.env 17) (.mov (.lenv (.env 16))), .mk (some ((.env 15), false)) (.env 18) (.mov (.bin .lss .no (.env 17) (.const (.int .i64 6)))), .mk none (.slot 6) (.mov (.pick (.env 15) (.const (.bool true)) (.env 18)))]) (.cond (.slot 6) (.seq (.reg [.mk none (.slot 1) (.mov (.mv (.const (.int .i64 0)))), .mk none (.slot 2) (.mov (.mv (.const (.bool false))))]) .ret) .skip)) (.seq (.reg [.mk none (.env 21) (.mov (.mv (.slot 0))), .mk none (.env 22) (.mov (.sl 1 (.env 21) (some (.const (.int .i64 3))) none none)), .mk none (.env 23) (.call 112 [(.env 22), (.const (.int .i64 3))]), .mk none (.env 20) (.mov (.mv (.env 23))), .mk none (.env 24) (.mov (.ext 0 (.env 20))), .mk none (.env 25) (.mov (.ext 1 (.env 20))), .mk none (.slot 5) (.mov (.mv (.env 24))), .mk none (.env 7) (.mov (.mv (.env 25)))]) (.seq (.reg [.mk none (.env 26) (.mov (.mv (.slot 3))), .mk none (.env 27) (.mov (.conv .i64 (.env 26))), .mk none (.env 28) (.mov (.mv (.slot 3))), .mk none (.env 29) (.mov (.mv (.slot 5))), .mk none (.env 30) (.mov (.bin .xor .no (.env 28) (.env 29))), .mk none (.env 31) (.mov (.bin .eql .no (.env 30) (.const (.int .u64 16777215)))), .mk none (.env 32) (.mov (.mv (.env 31))), .mk (some ((.env 32), true)) (.env 33) (.mov (.mv (.slot 3))), .mk (some ((.env 32), true)) (.env 34) (.mov (.bin .leq .no (.env 33) (.const (.int .u64 1048576)))), .mk none (.env 35) (.mov (.pick (.env 32) (.env 34) (.const (.bool false)))), .mk none (.slot 1) (.mov (.mv (.env 27))), .mk none (.slot 2) (.mov (.mv (.env 35)))]) .ret))))), [.slot (.slot 1), .slot (.slot 2)]⟩
def b_frPut : BF := ⟨23, [0, 1, 4, 5, 6, 7, 10], (.seq (.reg [.mk none (.slot 2) (.mov (.mv (.const .snil))), .mk none (.slot 3) (.mov (.mv (.const (.int .i64 0))))]) (.seq (.seq (.reg [.mk none (.env 8) (.mov (.mv (.slot 1))), .mk none (.env 9) (.mov (.lenv (.env 8))), .mk none (.slot 6) (.mov (.bin .gtr .no (.env 9) (.const (.int .i64 1048576))))]) (.cond (.slot 6) (.seq (.reg [.mk none (.slot 2) (.mov (.mv (.const .snil))), .mk none (.slot 3) (.mov (.mv (.const (.int .i64 3))))]) .ret) .skip)) (.seq (.reg [.mk none (.env 11) (.mov (.mv (.slot 1))), .mk none (.env 12) (.mov (.lenv (.env 11))), .mk none (.env 13) (.mov (.conv .u64 (.env 12))), .mk none (.slot 4) (.mov (.mv (.env 13)))]) (.seq (.reg [.mk none (.env 14) (.mov (.mv (.slot 0))), .mk none (.env 15) (.mov (.mv (.slot 4))), .mk none (.env 16) (.call 106 [(.env 14), (.env 15), (.const (.int .i64 3))]), .mk none (.env 17) (.mov (.mv (.slot 4))), .mk none (.env 18) (.mov (.bin .xor .no (.env 17) (.const (.int .u64 16777215)))), .mk none (.env 19) (.call 106 [(.env 16), (.env 18), (.const (.int .i64 3))]), .mk none (.slot 5) (.mov (.mv (.env 19)))]) (.seq (.reg [.mk none (.env 20) (.mov (.mv (.slot 5))), .mk none (.env 21) (.mov (.mv (.slot 1))), .mk none (.env 22) (.eff (.append 1 1 (.env 20) (.env 21))), .mk none (.slot 2) (.mov (.mv (.env 22))), .mk none (.slot 3) (.mov (.mv (.const (.int .i64 0))))]) .ret))))), [.slot (.slot 2), .slot (.slot 3)]⟩
section
variable {e : En} {t : List AV} {X : Type} {h : Hp X}
theorem v_xor {q : Eq} {x y : Od} {a b : Nat} (hx : x.ev e t = .int .u64 (a : Int)) (hy : y.ev e t = .int .u64 (b : Int)) (ha : a < 16777216) (hb : b < 16777216) : (Mv.bin .xor q x y).ev e t h = some (.int .u64 ((a ^^^ b : Nat) : Int)) := by
  have e0 : ∀ n : Nat, n < 18446744073709551616 → (BitVec.ofInt 64 (n : Int)).toNat = n := fun n hn => by
    rw [BitVec.toNat_ofInt]
    omega
  have hl : a ^^^ b < 16777216 := Nat.xor_lt_two_pow (n := 24) ha hb
  have e1 : (BitVec.ofInt IntKind.u64.bits (a : Int) ^^^ BitVec.ofInt IntKind.u64.bits (b : Int)).toNat = a ^^^ b := by
    show (BitVec.ofInt 64 (a : Int) ^^^ BitVec.ofInt 64 (b : Int)).toNat = a ^^^ b
    rw [BitVec.toNat_xor, e0 _ (by omega), e0 _ (by omega)]
  have e3 : ((a ^^^ b : Nat) : Int) % 2 ^ 64 = ((a ^^^ b : Nat) : Int) := by omega
  have e4 : wr .u64 ((a ^^^ b : Nat) : Int) = ((a ^^^ b : Nat) : Int) := by
    simp only [wr, IntKind.wrap, IntKind.signed, IntKind.bits, e3]
    simp
  simp only [Mv.ev, hx, hy, Am.bin, AV.onInt, isShift, Bool.false_or, decide_true, cond_true, intOp, e1, e4]
theorem be3 (l : List UInt8) : be (l.take 3) < 16777216 := Nat.lt_of_lt_of_le (be_lt _) (Nat.le_trans (Nat.pow_le_pow_right (by omega) (show (l.take 3).length ≤ 3 by rw [List.length_take]; omega)) (by decide))
end
section
variable {X : Type} {E : Nat → Option (Ent X)}
theorem OS.nsemp {h : Hp X} {z n : Nat} {v : AV} {cells : List AV} (a : OS h z v n cells) : v ≠ .semp := by rintro rfl; exact a.elim
def lenF (bs : List UInt8) : Nat × Bool := if bs.length < 6 then (0, false) else (be (bs.take 3), decide (be (bs.take 3) ^^^ be ((bs.drop 3).take 3) = 16777215 ∧ be (bs.take 3) ≤ 1048576))
theorem frLength_ok (hE : ∀ f e, E f = some e → e.plain) (hf : E 104 = some (.bc b_frLength)) (hg : E 112 = some (.bc b_octGet)) {h : Hp X} {v : AV} {bs : List UInt8} (hr : RS h 1 v bs.length (bs.map ub)) :
    WF (lim E) 104 [v] h fun r h' => h' = h ∧ r = .tup [.int .i64 (lenF bs).1, .bool (lenF bs).2] := by
  refine wf_bc hE hf rfl ?_
  simp only [b_frLength, List.map, getS]
  repeat first|(refine BG ?_;first|(refine BH ?_;first|(refine BI ?_;refine BM ?_)|(refine BJ ?_;first|refine BN ?_|refine BO ?_)|refine BP ?_)|(refine BK ?_;first|refine BS rfl rfl ?_|refine BT rfl rfl ?_|refine BU rfl ?_)|(refine BL ?_;first|refine BQ ?_)|(refine BR ?_;try simp only [setS]))|refine AA ?_|refine AC ?_|refine AD ?_|refine AE ?_|refine AF rfl rfl ?_|refine AG rfl rfl ?_|refine AH ?_|refine AI ?_|refine AJ ?_|refine AK ?_|refine AL ?_|refine AM ?_|refine AN ?_|refine AO ?_|refine AP ?_|refine AQ rfl ?_|refine AR ?_|refine AS ?_|refine AT rfl ?_|refine AU rfl ?_
  by_cases h3 : bs.length < 3
  · refine wr_call_e rfl ((get_no hE hg hr (n := 3) (by omega)).mono fun r h1 ⟨e1, e2⟩ => ?_)
    subst e1 e2
    repeat first|(refine BG ?_;first|(refine BH ?_;first|(refine BI ?_;refine BM ?_)|(refine BJ ?_;first|refine BN ?_|refine BO ?_)|refine BV (hr.lenv (by rfl)) ?_|refine BP ?_)|(refine BK ?_;first|refine BS rfl rfl ?_|refine BT rfl rfl ?_|refine BU rfl ?_)|(refine BL ?_;first|refine BQ ?_)|(refine BR ?_;try simp only [setS]))|refine AA ?_|refine AC ?_|refine AD ?_|refine AE ?_|refine AF rfl rfl ?_|refine AG rfl rfl ?_|refine AH ?_|refine AI ?_|refine AJ ?_|refine AK ?_|refine AL ?_|refine AM ?_|refine AN ?_|refine AO ?_|refine AP ?_|refine AQ rfl ?_|refine AR ?_|refine AS ?_|refine AT rfl ?_|refine AU rfl ?_
    refine ⟨rfl, ?_⟩
    unfold lenF
    rw [if_pos (by omega)]
    rfl
  · refine wr_call_e rfl ((get_ok hE hg hr (n := 3) (by omega) (by omega)).mono fun r h1 ⟨e1, e2⟩ => ?_)
    subst e1 e2
    by_cases h6 : bs.length < 6
    · repeat first|(refine BG ?_;first|(refine BH ?_;first|(refine BI ?_;refine BM ?_)|(refine BJ ?_;first|refine BN ?_|refine BO ?_)|refine BV (hr.lenv (by rfl)) ?_|refine BP ?_)|(refine BK ?_;first|refine BS rfl rfl ?_|refine BT rfl rfl ?_|refine BU rfl ?_)|(refine BL ?_;first|refine BQ ?_)|(refine BR ?_;try simp only [setS]))|refine AA ?_|refine AC ?_|refine AD ?_|refine AE ?_|refine AF rfl rfl ?_|refine AG rfl rfl ?_|refine AH ?_|refine AI ?_|refine AJ ?_|refine AK ?_|refine AL ?_|refine AM ?_|refine AN ?_|refine AO ?_|refine AP ?_|refine AQ rfl ?_|refine AR ?_|refine AS ?_|refine AT rfl ?_|refine AU rfl ?_
      refine ⟨rfl, ?_⟩
      unfold lenF
      rw [if_pos h6]
      rfl
    · obtain ⟨v2, hr2, _, _, hs2⟩ := hr.sl (lo := 3) (hi := bs.length) (by omega) (Nat.le_refl _)
      have e5 : ((bs.map ub).drop (3 * 1)).take ((bs.length - 3) * 1) = (bs.drop 3).map ub := by
        rw [Nat.mul_one, Nat.mul_one, ← List.map_drop, ← List.map_take, List.take_of_length_le (by rw [List.length_drop]; exact Nat.le_refl _)]
      have e6 : bs.length - 3 = (bs.drop 3).length := by rw [List.length_drop]
      rw [e5, e6] at hr2
      have b1 := be3 bs
      have b2 := be3 (bs.drop 3)
      repeat first|(refine BG ?_;first|(refine BH ?_;first|(refine BI ?_;refine BM ?_)|(refine BJ ?_;first|refine BN ?_|refine BO ?_)|refine BV (hr.lenv (by rfl)) ?_|refine BV (hs2 (by rfl) (.inr ⟨_, _, rfl, rfl⟩) (.inl ⟨rfl, rfl⟩)) ?_|refine BP ?_)|(refine BK ?_;first|refine BS rfl rfl ?_|refine BT rfl rfl ?_|refine BU rfl ?_)|(refine BL ?_;first|refine BQ ?_)|(refine BR ?_;try simp only [setS]))|refine AA ?_|refine AC ?_|refine AD ?_|refine AE ?_|refine AF rfl rfl ?_|refine AG rfl rfl ?_|refine AH ?_|refine AI ?_|refine AJ ?_|refine AK ?_|refine AL ?_|refine AM ?_|refine AN ?_|refine AO ?_|refine AP ?_|refine AQ rfl ?_|refine AR ?_|refine AS ?_|refine AT rfl ?_|refine AU rfl ?_
      refine wr_call_e rfl ((get_ok hE hg hr2 (n := 3) (by omega) (by rw [List.length_drop]; omega)).mono fun r h1 ⟨e1, e2⟩ => ?_)
      subst e1 e2
      have hl : lenF bs = (be (bs.take 3), decide (be (bs.take 3) ^^^ be ((bs.drop 3).take 3) = 16777215 ∧ be (bs.take 3) ≤ 1048576)) := by unfold lenF; rw [if_neg h6]
      rw [hl]
      generalize be (bs.take 3) = n at *
      generalize be ((bs.drop 3).take 3) = m at *
      by_cases hx : n ^^^ m = 16777215
      · have hxi : ((n ^^^ m : Nat) : Int) = 16777215 := by omega
        by_cases hn : n ≤ 1048576
        · repeat first|(refine BG ?_;first|(refine BH ?_;first|(refine BI ?_;refine BM ?_)|(refine BJ ?_;first|refine BN ?_|refine BO ?_)|refine BV (v_conv_i64 rfl (by omega)) ?_|refine BV (v_xor rfl rfl b1 b2) ?_|refine BP ?_)|(refine BK ?_;first|refine BS rfl rfl ?_|refine BT rfl rfl ?_|refine BU rfl ?_)|(refine BL ?_;first|refine BQ ?_)|(refine BR ?_;try simp only [setS]))|refine AA ?_|refine AC ?_|refine AD ?_|refine AE ?_|refine AF rfl rfl ?_|refine AG rfl rfl ?_|refine AH ?_|refine AI ?_|refine AJ ?_|refine AK ?_|refine AL ?_|refine AM ?_|refine AN ?_|refine AO ?_|refine AP ?_|refine AQ rfl ?_|refine AR ?_|refine AS ?_|refine AT rfl ?_|refine AU rfl ?_
          refine ⟨rfl, ?_⟩
          rw [decide_eq_true (show n ^^^ m = 16777215 ∧ n ≤ 1048576 from ⟨hx, hn⟩)]
          rfl
        · have hn' : ¬ ((n : Int) ≤ 1048576) := by omega
          repeat first|(refine BG ?_;first|(refine BH ?_;first|(refine BI ?_;refine BM ?_)|(refine BJ ?_;first|refine BN ?_|refine BO ?_)|refine BV (v_conv_i64 rfl (by omega)) ?_|refine BV (v_xor rfl rfl b1 b2) ?_|refine BP ?_)|(refine BK ?_;first|refine BS rfl rfl ?_|refine BT rfl rfl ?_|refine BU rfl ?_)|(refine BL ?_;first|refine BQ ?_)|(refine BR ?_;try simp only [setS]))|refine AA ?_|refine AC ?_|refine AD ?_|refine AE ?_|refine AF rfl rfl ?_|refine AG rfl rfl ?_|refine AH ?_|refine AI ?_|refine AJ ?_|refine AK ?_|refine AL ?_|refine AM ?_|refine AN ?_|refine AO ?_|refine AP ?_|refine AQ rfl ?_|refine AR ?_|refine AS ?_|refine AT rfl ?_|refine AU rfl ?_
          refine ⟨rfl, ?_⟩
          rw [decide_eq_false (show ¬ (n ^^^ m = 16777215 ∧ n ≤ 1048576) from fun q => hn q.2)]
          rfl
      · have hxi : ¬ ((n ^^^ m : Nat) : Int) = 16777215 := by omega
        repeat first|(refine BG ?_;first|(refine BH ?_;first|(refine BI ?_;refine BM ?_)|(refine BJ ?_;first|refine BN ?_|refine BO ?_)|refine BV (v_conv_i64 rfl (by omega)) ?_|refine BV (v_xor rfl rfl b1 b2) ?_|refine BP ?_)|(refine BK ?_;first|refine BS rfl rfl ?_|refine BT rfl rfl ?_|refine BU rfl ?_)|(refine BL ?_;first|refine BQ ?_)|(refine BR ?_;try simp only [setS]))|refine AA ?_|refine AC ?_|refine AD ?_|refine AE ?_|refine AF rfl rfl ?_|refine AG rfl rfl ?_|refine AH ?_|refine AI ?_|refine AJ ?_|refine AK ?_|refine AL ?_|refine AM ?_|refine AN ?_|refine AO ?_|refine AP ?_|refine AQ rfl ?_|refine AR ?_|refine AS ?_|refine AT rfl ?_|refine AU rfl ?_
        refine ⟨rfl, ?_⟩
        rw [decide_eq_false (show ¬ (n ^^^ m = 16777215 ∧ n ≤ 1048576) from fun q => hx q.1)]
        rfl
theorem Own1.trans {h h1 h2 : Hp X} {v w : AV} (a : Own1 h h1 v) (b : Own1 h1 h2 w) : Own1 h h2 w := ⟨a.1.trans b.1 (fun _ _ q => q), fun g hg => Nat.le_trans a.1.n (b.2 g hg)⟩
end
end Am
end Go.Proofs.Ythgcdoahoechhaa
namespace Go.Proofs.Ythgcdoahoechhaa
namespace Am
open Go.RowKit
set_option maxRecDepth 100000
def b_frAll : BF := ⟨51, [0, 2, 3, 4, 5, 6, 7, 8, 9, 18, 34], (.seq (.reg [.mk none (.slot 1) (.mov (.mv (.const .snil))), .mk none (.slot 2) (.mov (.mv (.const (.int .i64 0)))), .mk none (.slot 3) (.mov (.mv (.const (.int .i64 0))))]) (.seq (.reg [.mk none (.slot 4) (.mov (.mv (.const .snil)))]) (.seq (.reg [.mk none (.slot 5) (.mov (.mv (.const (.int .i64 0))))]) (.block 0 (.loop (.block 1 (.seq (.reg [.mk none (.env 10) (.mov (.mv (.slot 0))), .mk none (.env 11) (.mov (.mv (.slot 5))), .mk none (.env 12) (.mov (.sl 1 (.env 10) (some (.env 11)) none none)), .mk none (.slot 6) (.mov (.mv (.env 12)))]) (.seq (.reg [.mk none (.env 14) (.mov (.mv (.slot 6))), .mk none (.env 15) (.call 104 [(.env 14)]), .mk none (.env 13) (.mov (.mv (.env 15))), .mk none (.env 16) (.mov (.ext 0 (.env 13))), .mk none (.env 17) (.mov (.ext 1 (.env 13))), .mk none (.slot 7) (.mov (.mv (.env 16))), .mk none (.slot 8) (.mov (.mv (.env 17)))]) (.seq (.block 2 (.seq (.reg [.mk none (.env 19) (.mov (.mv (.slot 6))), .mk none (.env 20) (.mov (.lenv (.env 19))), .mk none (.env 21) (.mov (.bin .lss .no (.env 20) (.const (.int .i64 6)))), .mk none (.env 22) (.mov (.mv (.env 21))), .mk (some ((.env 22), false)) (.env 23) (.mov (.mv (.slot 8))), .mk (some ((.env 22), false)) (.env 24) (.mov (.mv (.env 23))), .mk (some ((.env 24), true)) (.env 25) (.mov (.mv (.slot 7))), .mk (some ((.env 24), true)) (.env 26) (.mov (.mv (.slot 6))), .mk (some ((.env 24), true)) (.env 27) (.mov (.lenv (.env 26))), .mk (some ((.env 24), true)) (.env 28) (.mov (.bin .sub .no (.env 27) (.const (.int .i64 6)))), .mk (some ((.env 24), true)) (.env 29) (.mov (.bin .gtr .no (.env 25) (.env 28))), .mk (some ((.env 22), false)) (.env 30) (.mov (.pick (.env 24) (.env 29) (.const (.bool false)))), .mk none (.env 31) (.mov (.pick (.env 22) (.const (.bool true)) (.env 30))), .mk none (.slot 9) (.mov (.mv (.env 31)))]) (.cond (.slot 9) (.seq (.reg [.mk none (.env 32) (.mov (.mv (.slot 4))), .mk none (.env 33) (.mov (.mv (.slot 5))), .mk none (.slot 1) (.mov (.mv (.env 32))), .mk none (.slot 2) (.mov (.mv (.env 33))), .mk none (.slot 3) (.mov (.mv (.const (.int .i64 0))))]) .ret) (.seq (.reg [.mk none (.env 35) (.mov (.mv (.slot 8))), .mk none (.env 36) (.mov (.notb (.env 35))), .mk none (.slot 10) (.mov (.mv (.env 36)))]) (.cond (.slot 10) (.seq (.reg [.mk none (.env 37) (.mov (.mv (.slot 4))), .mk none (.env 38) (.mov (.mv (.slot 5))), .mk none (.slot 1) (.mov (.mv (.env 37))), .mk none (.slot 2) (.mov (.mv (.env 38))), .mk none (.slot 3) (.mov (.mv (.const (.int .i64 14))))]) .ret) .skip))))) (.seq (.reg [.mk none (.env 39) (.mov (.mv (.slot 4))), .mk none (.env 40) (.mov (.mv (.slot 6))), .mk none (.env 41) (.mov (.mv (.slot 7))), .mk none (.env 42) (.mov (.bin .add .no (.const (.int .i64 6)) (.env 41))), .mk none (.env 43) (.mov (.sl 1 (.env 40) (some (.const (.int .i64 6))) (some (.env 42)) none)), .mk none (.env 44) (.call 85 [(.env 43)]), .mk none (.env 45) (.eff (.bslice 1 1 [.snil] [(0, 1, (.env 44))])), .mk none (.env 46) (.eff (.append 1 24 (.env 39) (.env 45))), .mk none (.slot 4) (.mov (.mv (.env 46)))]) (.reg [.mk none (.env 47) (.mov (.mv (.slot 5))), .mk none (.env 48) (.mov (.mv (.slot 7))), .mk none (.env 49) (.mov (.bin .add .no (.const (.int .i64 6)) (.env 48))), .mk none (.env 50) (.mov (.bin .add .no (.env 47) (.env 49))), .mk none (.slot 5) (.mov (.mv (.env 50)))]))))))))))), [.slot (.slot 1), .slot (.slot 2), .slot (.slot 3)]⟩
def allG : Nat → List UInt8 → List (List UInt8) × Nat × Bool
  | 0, _ => ([], 0, true)
  | k + 1, rest =>
    if rest.length < 6 ∨ ((lenF rest).2 = true ∧ rest.length - 6 < (lenF rest).1) then ([], 0, true)
    else if (lenF rest).2 = false then ([], 0, false)
    else ((rest.drop 6).take (lenF rest).1 :: (allG k (rest.drop (6 + (lenF rest).1))).1, 6 + (lenF rest).1 + (allG k (rest.drop (6 + (lenF rest).1))).2.1, (allG k (rest.drop (6 + (lenF rest).1))).2.2)
section
variable {X : Type} {E : Nat → Option (Ent X)}
def Recs (h : Hp X) (v : AV) (recs : List (List UInt8)) (lo : Nat) : Prop := ∃ cells, OS h 1 v recs.length cells ∧ (∀ g, blk v g → lo ≤ g) ∧
  ∀ (i : Nat) (r : List UInt8), recs[i]? = some r → ∃ c, cells[i]? = some c ∧ c ≠ .semp ∧ RS h 1 c r.length (r.map ub) ∧ ∀ g, blk c g → lo ≤ g ∧ ¬ blk v g
theorem RS.bytes {h : Hp X} {v : AV} {bs : List UInt8} (a : RS h 1 v bs.length (bs.map ub)) {lo hi : Nat} (h1 : lo ≤ hi) (h2 : hi ≤ bs.length) : ∃ v', RS h 1 v' ((bs.drop lo).take (hi - lo)).length (((bs.drop lo).take (hi - lo)).map ub) ∧ (∀ g, blk v' g → blk v g) ∧ (v ≠ .semp → v' ≠ .semp) ∧
    ∀ {hh : Hp X} {e : En} {t : List AV} {x : Od} {ol oh : Option Od}, x.ev e t = v → Bnd ol e t lo 0 → Bnd oh e t hi bs.length → (Mv.sl 1 x ol oh none).ev e t hh = some v' := by
  obtain ⟨v', k1, k2, k3, k4⟩ := a.sl h1 h2
  refine ⟨v', ?_, k2, k3, k4⟩
  have e1 : ((bs.map ub).drop (lo * 1)).take ((hi - lo) * 1) = ((bs.drop lo).take (hi - lo)).map ub := by rw [Nat.mul_one, Nat.mul_one, ← List.map_drop, ← List.map_take]
  have e2 : hi - lo = ((bs.drop lo).take (hi - lo)).length := by rw [List.length_take, List.length_drop]; omega
  rw [e1] at k1
  rw [← e2]
  exact k1
theorem ef_bs1' {e : En} {t : List AV} {h : Hp X} {x : Od} {c zero : AV} (hx : x.ev e t = c) (hc : cellsOf c = some [c]) (h1 : c.one = true) : (Ef.bslice 1 1 [zero] [(0, 1, x)]).ev e t h = some (.slice 1 h.n 0 1 (some 1), h.push (.rw [c])) := by
  have ho : allOne [c] = true := by
    unfold allOne
    cases c <;> first | (cases h1; done) | rfl
  have hf : fillA (rep [zero] 1) [(0, 1, c)] = some [c] := by
    simp only [fillA, rep, hc]
    rfl
  simp only [Ef.ev, List.map, hx]
  rw [hf]
  show (bif allOne [c] && Nat.beq 1 (1 * 1) && Nat.ble 1 maxLen then some (AV.slice 1 h.n 0 1 (some 1), h.push (.rw [c])) else none) = _
  rw [ho]
  rfl
theorem OS.one {h : Hp X} {z n : Nat} {v : AV} {cells : List AV} (a : OS h z v n cells) : cellsOf v = some [v] ∧ v.one = true := by
  cases v <;> first | exact a.elim | exact ⟨rfl, rfl⟩
theorem frAll_ok (hE : ∀ f e, E f = some e → e.plain) (hf : E 74 = some (.bc b_frAll)) (hl : E 104 = some (.bc b_frLength)) (hg : E 112 = some (.bc b_octGet)) (hc : E 85 = some (.bc b_clone)) {h : Hp X} {v : AV} {bs : List UInt8} (hr : RS h 1 v bs.length (bs.map ub)) (hb : bs.length ≤ 1099511627776) :
    WF (lim E) 74 [v] h fun x h' => ∃ o, x = .tup [o, .int .i64 (allG (bs.length + 1) bs).2.1, .int .i64 (if (allG (bs.length + 1) bs).2.2 then 0 else 14)] ∧ Keep NoB h h' ∧ Recs h' o (allG (bs.length + 1) bs).1 h.n := by
  refine wf_bc hE hf rfl ?_
  simp only [b_frAll, List.map, getS]
  have hmx : (maxLen : Nat) = 9223372036854775807 := rfl
  repeat first|(refine BG ?_;first|(refine BH ?_;first|(refine BI ?_;refine BM ?_)|(refine BJ ?_;first|refine BN ?_|refine BO ?_)|refine BP ?_)|(refine BK ?_;first|refine BS rfl rfl ?_|refine BT rfl rfl ?_|refine BU rfl ?_)|(refine BL ?_;first|refine BQ ?_)|(refine BR ?_;try simp only [setS]))|refine AA ?_|refine AC ?_|refine AD ?_|refine AE ?_|refine AF rfl rfl ?_|refine AG rfl rfl ?_|refine AH ?_|refine AI ?_|refine AJ ?_|refine AK ?_|refine AL ?_|refine AM ?_|refine AN ?_|refine AO ?_|refine AP ?_|refine AQ rfl ?_|refine AR ?_|refine AS ?_|refine AT rfl ?_|refine AU rfl ?_
  have hA0 : allG (bs.length + 1) (bs.drop 0) = allG (bs.length + 1) bs := by rw [List.drop_zero]
  generalize allG (bs.length + 1) bs = A at hA0 ⊢
  refine wb_loop (fun k t h' => ∃ (o s1 s2 s3 s6 s7 s8 s9 s10 : AV) (at' : Nat) (pre : List (List UInt8)), Keep NoB h h' ∧ Recs h' o pre h.n ∧ at' ≤ bs.length ∧ bs.length - at' < k ∧ pre.length * 6 ≤ at' ∧
    pre ++ (allG k (bs.drop at')).1 = A.1 ∧ at' + (allG k (bs.drop at')).2.1 = A.2.1 ∧ (allG k (bs.drop at')).2.2 = A.2.2 ∧ t = [v, s1, s2, s3, o, .int .i64 at', s6, s7, s8, s9, s10]) ?_ (bs.length + 1) _ _ ⟨.snil, _, _, _, _, _, _, _, _, 0, [], Keep.refl _ _, ⟨[], ⟨rfl, rfl⟩, (fun g q => q.elim), fun i r hi => by simp at hi⟩, by omega, by omega, by simp, by rw [hA0]; simp, by rw [hA0]; simp, by rw [hA0], rfl⟩
  rintro k t h' ⟨o, s1, s2, s3, s6, s7, s8, s9, s10, at', pre, hk, hrec, hat, hfu, hpre, q1, q2, q3, rfl⟩
  obtain ⟨k, rfl⟩ : ∃ k', k = k' + 1 := ⟨k - 1, by omega⟩
  have hr' := hr.keep hk (fun _ _ q => q)
  obtain ⟨rv, r1, r2, r3, r4⟩ := hr'.bytes (lo := at') (hi := bs.length) hat (Nat.le_refl _)
  have e1 : (bs.drop at').take (bs.length - at') = bs.drop at' := List.take_of_length_le (by rw [List.length_drop]; exact Nat.le_refl _)
  rw [e1] at r1
  have hrl : (bs.drop at').length = bs.length - at' := List.length_drop
  generalize hrs : bs.drop at' = rest at *
  repeat first|(refine BG ?_;first|(refine BH ?_;first|(refine BI ?_;refine BM ?_)|(refine BJ ?_;first|refine BN ?_|refine BO ?_)|refine BV (r4 (by rfl) (.inr ⟨_, _, rfl, rfl⟩) (.inl ⟨rfl, rfl⟩)) ?_|refine BP ?_)|(refine BK ?_;first|refine BS rfl rfl ?_|refine BT rfl rfl ?_|refine BU rfl ?_)|(refine BL ?_;first|refine BQ ?_)|(refine BR ?_;try simp only [setS]))|refine AA ?_|refine AC ?_|refine AD ?_|refine AE ?_|refine AF rfl rfl ?_|refine AG rfl rfl ?_|refine AH ?_|refine AI ?_|refine AJ ?_|refine AK ?_|refine AL ?_|refine AM ?_|refine AN ?_|refine AO ?_|refine AP ?_|refine AQ rfl ?_|refine AR ?_|refine AS ?_|refine AT rfl ?_|refine AU rfl ?_
  refine wr_call_e rfl ((frLength_ok hE hl hg r1).mono fun x h1 ⟨x1, x2⟩ => ?_)
  subst x1 x2
  have hlt : (lenF rest).1 < 16777216 := by unfold lenF; split; decide; exact be3 _
  simp only [allG] at q1 q2 q3
  cases hp : lenF rest with
  | mk n ok =>
  rw [hp] at q1 q2 q3 hlt
  simp only at q1 q2 q3 hlt
  by_cases c1 : rest.length < 6
  · rw [if_pos (.inl c1)] at q1 q2 q3
    repeat first|(refine BG ?_;first|(refine BH ?_;first|(refine BI ?_;refine BM ?_)|(refine BJ ?_;first|refine BN ?_|refine BO ?_)|refine BV (r1.lenv (by rfl)) ?_|refine BP ?_)|(refine BK ?_;first|refine BS rfl rfl ?_|refine BT rfl rfl ?_|refine BU rfl ?_)|(refine BL ?_;first|refine BQ ?_)|(refine BR ?_;try simp only [setS]))|refine AA ?_|refine AC ?_|refine AD ?_|refine AE ?_|refine AF rfl rfl ?_|refine AG rfl rfl ?_|refine AH ?_|refine AI ?_|refine AJ ?_|refine AK ?_|refine AL ?_|refine AM ?_|refine AN ?_|refine AO ?_|refine AP ?_|refine AQ rfl ?_|refine AR ?_|refine AS ?_|refine AT rfl ?_|refine AU rfl ?_
    refine ⟨o, ?_, hk, by rw [← q1]; simpa using hrec⟩
    rw [← q2, ← q3]
    rfl
  have hc6 : ¬ (rest.length : Int) < 6 := by omega
  cases ok with
  | false =>
    rw [if_neg (by rintro (q | ⟨q, _⟩); exact c1 q; cases q), if_pos rfl] at q1 q2 q3
    repeat first|(refine BG ?_;first|(refine BH ?_;first|(refine BI ?_;refine BM ?_)|(refine BJ ?_;first|refine BN ?_|refine BO ?_)|refine BV (r1.lenv (by rfl)) ?_|refine BP ?_)|(refine BK ?_;first|refine BS rfl rfl ?_|refine BT rfl rfl ?_|refine BU rfl ?_)|(refine BL ?_;first|refine BQ ?_)|(refine BR ?_;try simp only [setS]))|refine AA ?_|refine AC ?_|refine AD ?_|refine AE ?_|refine AF rfl rfl ?_|refine AG rfl rfl ?_|refine AH ?_|refine AI ?_|refine AJ ?_|refine AK ?_|refine AL ?_|refine AM ?_|refine AN ?_|refine AO ?_|refine AP ?_|refine AQ rfl ?_|refine AR ?_|refine AS ?_|refine AT rfl ?_|refine AU rfl ?_
    refine ⟨o, ?_, hk, by rw [← q1]; simpa using hrec⟩
    rw [← q2, ← q3]
    rfl
  | true =>
    by_cases c2 : rest.length - 6 < n
    · rw [if_pos (.inr ⟨rfl, c2⟩)] at q1 q2 q3
      repeat first|(refine BG ?_;first|(refine BH ?_;first|(refine BI ?_;refine BM ?_)|(refine BJ ?_;first|refine BN ?_|refine BO ?_)|refine BV (r1.lenv (by rfl)) ?_|refine BP ?_)|(refine BK ?_;first|refine BS rfl rfl ?_|refine BT rfl rfl ?_|refine BU rfl ?_)|(refine BL ?_;first|refine BQ ?_)|(refine BR ?_;try simp only [setS]))|refine AA ?_|refine AC ?_|refine AD ?_|refine AE ?_|refine AF rfl rfl ?_|refine AG rfl rfl ?_|refine AH ?_|refine AI ?_|refine AJ ?_|refine AK ?_|refine AL ?_|refine AM ?_|refine AN ?_|refine AO ?_|refine AP ?_|refine AQ rfl ?_|refine AR ?_|refine AS ?_|refine AT rfl ?_|refine AU rfl ?_
      refine ⟨o, ?_, hk, by rw [← q1]; simpa using hrec⟩
      rw [← q2, ← q3]
      rfl
    · rw [if_neg (by rintro (q | ⟨_, q⟩); exact c1 q; exact c2 q), if_neg (by decide)] at q1 q2 q3
      obtain ⟨cv, d1, d2, d3, d4⟩ := r1.bytes (lo := 6) (hi := 6 + n) (by omega) (by omega)
      have e2 : (rest.drop 6).take (6 + n - 6) = (rest.drop 6).take n := by rw [Nat.add_sub_cancel_left]
      rw [e2] at d1
      have hnl : ((rest.drop 6).take n).length = n := by rw [List.length_take, List.length_drop]; omega
      have hsemp : v ≠ .semp := by
        rintro rfl
        have : bs.length = 0 := hr.1
        omega
      repeat first|(refine BG ?_;first|(refine BH ?_;first|(refine BI ?_;refine BM ?_)|(refine BJ ?_;first|refine BN ?_|refine BO ?_)|refine BV (r1.lenv (by rfl)) ?_|refine BV (d4 (by rfl) (.inr ⟨_, _, rfl, rfl⟩) (.inr ⟨_, _, rfl, by rfl⟩)) ?_|refine BP ?_)|(refine BK ?_;first|refine BS rfl rfl ?_|refine BT rfl rfl ?_|refine BU rfl ?_)|(refine BL ?_;first|refine BQ ?_)|(refine BR ?_;try simp only [setS]))|refine AA ?_|refine AC ?_|refine AD ?_|refine AE ?_|refine AF rfl rfl ?_|refine AG rfl rfl ?_|refine AH ?_|refine AI ?_|refine AJ ?_|refine AK ?_|refine AL ?_|refine AM ?_|refine AN ?_|refine AO ?_|refine AP ?_|refine AQ rfl ?_|refine AR ?_|refine AS ?_|refine AT rfl ?_|refine AU rfl ?_
      rw [hnl] at d1
      refine wr_call_e rfl ((clone_ok hE hc d1 (d3 (r3 hsemp)) (by omega)).mono fun c h2 ⟨w1, w2⟩ => ?_)
      repeat first|(refine BG ?_;first|(refine BH ?_;first|(refine BI ?_;refine BM ?_)|(refine BJ ?_;first|refine BN ?_|refine BO ?_)|refine BP ?_)|(refine BK ?_;first|refine BS rfl rfl ?_|refine BT rfl rfl ?_|refine BU rfl ?_)|(refine BL ?_;first|refine BW (ef_bs1' rfl w2.one.1 w2.one.2) ?_|refine BQ ?_)|(refine BR ?_;try simp only [setS]))|refine AA ?_|refine AC ?_|refine AD ?_|refine AE ?_|refine AF rfl rfl ?_|refine AG rfl rfl ?_|refine AH ?_|refine AI ?_|refine AJ ?_|refine AK ?_|refine AL ?_|refine AM ?_|refine AN ?_|refine AO ?_|refine AP ?_|refine AQ rfl ?_|refine AR ?_|refine AS ?_|refine AT rfl ?_|refine AU rfl ?_
      obtain ⟨cells, g1, g2, g3⟩ := hrec
      have g1' := (g1.keep w1.1 (fun _ _ q => q)).keep (Keep.push NoB h2 (.rw [c])) (fun _ _ q => q)
      refine wr_app_e rfl rfl g1' Nat.zero_lt_one (rs_push rfl) (by omega) (by omega) fun o' h3 a1 a2 a3 => ?_
      repeat first|(refine BG ?_;first|(refine BH ?_;first|(refine BI ?_;refine BM ?_)|(refine BJ ?_;first|refine BN ?_|refine BO ?_)|refine BP ?_)|(refine BK ?_;first|refine BS rfl rfl ?_|refine BT rfl rfl ?_|refine BU rfl ?_)|(refine BL ?_;first|refine BQ ?_)|(refine BR ?_;try simp only [setS]))|refine AA ?_|refine AC ?_|refine AD ?_|refine AE ?_|refine AF rfl rfl ?_|refine AG rfl rfl ?_|refine AH ?_|refine AI ?_|refine AJ ?_|refine AK ?_|refine AL ?_|refine AM ?_|refine AN ?_|refine AO ?_|refine AP ?_|refine AQ rfl ?_|refine AR ?_|refine AS ?_|refine AT rfl ?_|refine AU rfl ?_
      have k2 : Keep NoB h h2 := hk.trans w1.1 (fun _ _ q => q)
      have k3 : Keep NoB h h3 := (k2.trans (Keep.push NoB h2 (.rw [c])) (fun _ _ q => q)).trans a2 (fun g hg hb => by have := g2 g hb; omega)
      have ed : bs.drop (at' + (6 + n)) = rest.drop (6 + n) := by rw [← hrs, List.drop_drop]
      rw [show ((at' : Int) + (6 + (n : Int))) = ((at' + (6 + n) : Nat) : Int) by omega]
      refine round_norm k (Nat.lt_succ_self _) ⟨o', _, _, _, _, _, _, _, _, at' + (6 + n), pre ++ [(rest.drop 6).take n], k3, ⟨cells ++ [c], ?_, ?_, ?_⟩, by omega, by omega, ?_, ?_, ?_, ?_, rfl⟩
      · rw [List.length_append, List.length_singleton]; exact a1
      · intro g hg
        rcases a3 g hg with hb | hb
        · exact g2 g hb
        · have := k2.n; exact Nat.le_trans this (Nat.le_trans (Nat.le_succ _) hb)
      · intro i r hi
        have hcl : cells.length = pre.length := by have := g1.len; omega
        rw [List.getElem?_append] at hi
        by_cases hil : i < pre.length
        · rw [if_pos hil] at hi
          obtain ⟨c', f1, f2, f3, f4⟩ := g3 i r hi
          refine ⟨c', by rw [List.getElem?_append_left (by omega)]; exact f1, f2, ?_, fun g hg => ⟨(f4 g hg).1, fun hb => ?_⟩⟩
          · exact ((f3.keep w1.1 (fun _ _ q => q)).keep (Keep.push NoB h2 (.rw [c])) (fun _ _ q => q)).keep a2 (fun g hg => (f4 g hg).2)
          · rcases a3 g hb with hb | hb
            · exact (f4 g hg).2 hb
            · have := f3.lt g hg
              have := w1.1.n
              have : h2.n + 1 ≤ g := hb
              omega
        · rw [if_neg hil] at hi
          have hi0 : i - pre.length = 0 := by
            have := (List.getElem?_eq_some_iff.1 hi).1
            simp at this
            omega
          rw [hi0] at hi
          simp only [List.getElem?_cons_zero, Option.some.injEq] at hi
          subst hi
          refine ⟨c, by rw [List.getElem?_append_right (by omega), show i - cells.length = 0 by omega]; rfl, w2.nsemp, ?_, fun g hg => ⟨Nat.le_trans hk.n (w1.2 g hg), fun hb => ?_⟩⟩
          · rw [hnl]
            exact (w2.rs.keep (Keep.push NoB h2 (.rw [c])) (fun _ _ q => q)).keep a2 (fun g hg hb => by
              have := g1.lt g hb
              have := w1.2 g hg
              omega)
          · rcases a3 g hb with hb | hb
            · have := g1.lt g hb
              have := w1.2 g hg
              omega
            · have := w2.lt g hg
              have : h2.n + 1 ≤ g := hb
              omega
      · rw [List.length_append, List.length_singleton]; omega
      · rw [ed, List.append_assoc, List.singleton_append]; exact q1
      · rw [ed]
        have q2' : at' + (6 + n + (allG k (rest.drop (6 + n))).2.1) = A.2.1 := q2
        omega
      · rw [ed]; exact q3
end
end Am
end Go.Proofs.Ythgcdoahoechhaa
namespace Go.Proofs.Ythgcdoahoechhaa
namespace Am
open Go.RowKit
set_option maxRecDepth 100000
def b_frTake : BF := ⟨31, [0, 1, 4, 5, 12], (.seq (.reg [.mk none (.slot 2) (.mov (.mv (.const .snil)))]) (.seq (.seq (.reg [.mk none (.env 6) (.mov (.mv (.slot 1))), .mk none (.env 7) (.mov (.mv (.slot 0))), .mk none (.env 8) (.mov (.nilc (.env 7))), .mk none (.env 9) (.mov (.faddr 0 (.env 8))), .mk none (.env 10) (.mov (.ld1 (.env 9))), .mk none (.env 11) (.mov (.lenv (.env 10))), .mk none (.slot 4) (.mov (.bin .gtr .no (.env 6) (.env 11)))]) (.cond (.slot 4) (.reg [.mk none (.env 13) (.mov (.mkif 25 (.const (.int .i64 12)))), .mk none .none (.pan (.env 13))]) .skip)) (.seq (.reg [.mk none (.env 14) (.mov (.mv (.slot 0))), .mk none (.env 15) (.mov (.nilc (.env 14))), .mk none (.env 16) (.mov (.faddr 0 (.env 15))), .mk none (.env 17) (.mov (.ld1 (.env 16))), .mk none (.env 18) (.mov (.mv (.slot 1))), .mk none (.env 19) (.mov (.sl 1 (.env 17) none (some (.env 18)) none)), .mk none (.env 20) (.call 85 [(.env 19)]), .mk none (.slot 3) (.mov (.mv (.env 20)))]) (.seq (.reg [.mk none (.env 21) (.mov (.mv (.slot 0))), .mk none (.env 22) (.mov (.mv (.slot 0))), .mk none (.env 23) (.mov (.nilc (.env 22))), .mk none (.env 24) (.mov (.faddr 0 (.env 23))), .mk none (.env 25) (.mov (.ld1 (.env 24))), .mk none (.env 26) (.mov (.mv (.slot 1))), .mk none (.env 27) (.mov (.sl 1 (.env 25) (some (.env 26)) none none)), .mk none (.env 28) (.mov (.nilc (.env 21))), .mk none (.env 29) (.mov (.faddr 0 (.env 28))), .mk none .none (.eff (.store 1 (.env 29) (.env 27)))]) (.seq (.reg [.mk none (.env 30) (.mov (.mv (.slot 3))), .mk none (.slot 2) (.mov (.mv (.env 30)))]) .ret))))), [.slot (.slot 2)]⟩
def b_frNumber : BF := ⟨17, [0, 1, 4, 5], (.seq (.reg [.mk none (.slot 2) (.mov (.mv (.const (.int .i64 0))))]) (.seq (.reg [.mk none (.env 8) (.mov (.mv (.slot 0))), .mk none (.env 9) (.mov (.mv (.slot 1))), .mk none (.env 10) (.call 126 [(.env 8), (.env 9)]), .mk none (.env 11) (.mov (.mv (.slot 1))), .mk none (.env 12) (.call 112 [(.env 10), (.env 11)]), .mk none (.env 7) (.mov (.mv (.env 12))), .mk none (.env 13) (.mov (.ext 0 (.env 7))), .mk none (.env 14) (.mov (.ext 1 (.env 7))), .mk none (.slot 3) (.mov (.mv (.env 13))), .mk none (.env 6) (.mov (.mv (.env 14)))]) (.seq (.reg [.mk none (.env 15) (.mov (.mv (.slot 3))), .mk none (.env 16) (.mov (.conv .i64 (.env 15))), .mk none (.slot 2) (.mov (.mv (.env 16)))]) .ret))), [.slot (.slot 2)]⟩
section
variable {X : Type} {E : Nat → Option (Ent X)}
theorem RS.one {h : Hp X} {z n : Nat} {v : AV} {cells : List AV} (a : RS h z v n cells) : cellsOf v = some [v] ∧ v.one = true := by
  cases v <;> first | exact a.elim | exact ⟨rfl, rfl⟩
structure Rdr (h : Hp X) (g m : Nat) (bs : List UInt8) : Prop where
  lt : g < h.n
  ok : ∃ bv, h.get g = some (.rw [bv]) ∧ RS h 1 bv bs.length (bs.map ub) ∧ bv ≠ .semp ∧ ∀ k, blk bv k → k ≠ g ∧ k < m
theorem Rdr.keep {S : Nat → Prop} {h h' : Hp X} {g m : Nat} {bs : List UInt8} (a : Rdr h g m bs) (k : Keep S h h') (hs : ∀ bv, h.get g = some (.rw [bv]) → ∀ j, blk bv j → ¬ S j) (hg : ¬ S g) : Rdr h' g m bs := by
  obtain ⟨lt, bv, h1, h2, h3, h4⟩ := a
  exact ⟨Nat.lt_of_lt_of_le lt k.n, bv, by rw [k.get g lt hg]; exact h1, h2.keep k (hs bv h1), h3, h4⟩
theorem take_ok (hE : ∀ f e, E f = some e → e.plain) (hf : E 126 = some (.bc b_frTake)) (hc : E 85 = some (.bc b_clone)) {h : Hp X} {g n m : Nat} {bs : List UInt8} (hr : Rdr h g m bs) (hn : n ≤ bs.length) (hb : bs.length ≤ 1099511627776) :
    WF (lim E) 126 [.ptr g 0, .int .i64 n] h fun r h' => Rdr h' g m (bs.drop n) ∧ Keep (OneB g) h h' ∧ (∀ k, blk r k → h.n ≤ k) ∧ OS h' 1 r (bs.take n).length ((bs.take n).map ub) := by
  obtain ⟨lt, bv, h1, h2, h3, h4⟩ := hr
  obtain ⟨v1, p1, p2, p3, p4⟩ := h2.bytes (lo := 0) (hi := n) (Nat.zero_le _) hn
  rw [List.drop_zero, Nat.sub_zero] at p1
  have hn' : ¬ (bs.length : Int) < n := by omega
  have hl0 : (bs.take n).length = n := by rw [List.length_take]; omega
  refine wf_bc hE hf rfl ?_
  simp only [b_frTake, List.map, getS]
  repeat first|(refine BG ?_;first|(refine BH ?_;first|(refine BI ?_;refine BM ?_)|(refine BJ ?_;first|refine BN ?_|refine BO ?_)|refine BV (v_nilc rfl) ?_|refine BV (v_ld1 rfl h1 rfl) ?_|refine BV (h2.lenv (by rfl)) ?_|refine BV (p4 (by rfl) (.inl ⟨rfl, rfl⟩) (.inr ⟨_, _, rfl, rfl⟩)) ?_|refine BP ?_)|(refine BK ?_;first|refine BS rfl rfl ?_|refine BT rfl rfl ?_|refine BU rfl ?_)|(refine BL ?_;first|refine BQ ?_)|(refine BR ?_;try simp only [setS]))|refine AA ?_|refine AC ?_|refine AD ?_|refine AE ?_|refine AF rfl rfl ?_|refine AG rfl rfl ?_|refine AH ?_|refine AI ?_|refine AJ ?_|refine AK ?_|refine AL ?_|refine AM ?_|refine AN ?_|refine AO ?_|refine AP ?_|refine AQ rfl ?_|refine AR ?_|refine AS ?_|refine AT rfl ?_|refine AU rfl ?_|refine AW ?_|refine AX ?_|refine AY ?_|refine AZ ?_|refine BA rfl ?_|refine BB rfl ?_|refine BE ?_
  refine wr_call_e rfl ((clone_ok hE hc p1 (p3 h3) (by omega)).mono fun r k1 ⟨w1, w2⟩ => ?_)
  have g1 : k1.get g = some (.rw [bv]) := by rw [w1.1.get g lt (fun q => q)]; exact h1
  have r2 := h2.keep w1.1 (fun _ _ q => q)
  obtain ⟨v2, s1, s2, s3, s4⟩ := r2.bytes (lo := n) (hi := bs.length) hn (Nat.le_refl _)
  have e1 : (bs.drop n).take (bs.length - n) = bs.drop n := List.take_of_length_le (by rw [List.length_drop]; exact Nat.le_refl _)
  rw [e1] at s1
  repeat first|(refine BG ?_;first|(refine BH ?_;first|(refine BI ?_;refine BM ?_)|(refine BJ ?_;first|refine BN ?_|refine BO ?_)|refine BV (v_nilc rfl) ?_|refine BV (v_ld1 rfl g1 rfl) ?_|refine BV (s4 (by rfl) (.inr ⟨_, _, rfl, rfl⟩) (.inl ⟨rfl, rfl⟩)) ?_|refine BP ?_)|(refine BK ?_;first|refine BS rfl rfl ?_|refine BT rfl rfl ?_|refine BU rfl ?_)|(refine BL ?_;first|refine BW (ef_store1 rfl rfl s1.one g1 (Nat.lt_succ_self 0)) ?_|refine BQ ?_)|(refine BR ?_;try simp only [setS]))|refine AA ?_|refine AC ?_|refine AD ?_|refine AE ?_|refine AF rfl rfl ?_|refine AG rfl rfl ?_|refine AH ?_|refine AI ?_|refine AJ ?_|refine AK ?_|refine AL ?_|refine AM ?_|refine AN ?_|refine AO ?_|refine AP ?_|refine AQ rfl ?_|refine AR ?_|refine AS ?_|refine AT rfl ?_|refine AU rfl ?_|refine AW ?_|refine AX ?_|refine AY ?_|refine AZ ?_|refine BA rfl ?_|refine BB rfl ?_|refine BE ?_
  have kp : Keep (OneB g) k1 (k1.put g (.rw (spl 0 [v2] [bv]))) := Keep.put k1 g _ rfl
  refine ⟨⟨Nat.lt_of_lt_of_le lt w1.1.n, v2, Hp.put_self _ _ _, s1.keep kp (fun k hk hb => (h4 k (s2 k hk)).1 hb), s3 h3, fun k hk => h4 k (s2 k hk)⟩, (w1.1.mono (fun _ _ q => q.elim)).trans kp (fun _ _ q => q), w1.2, w2.keep kp (fun k hk hb => ?_)⟩
  have := w1.2 k hk
  have hb' : k = g := hb
  omega
theorem take_no (hE : ∀ f e, E f = some e → e.plain) (hf : E 126 = some (.bc b_frTake)) {h : Hp X} {g n m : Nat} {bs : List UInt8} (hr : Rdr h g m bs) (hn : bs.length < n) :
    WP (lim E) 126 [.ptr g 0, .int .i64 n] h fun v h' => (∃ ty x, v = .iface ty x) ∧ h' = h := by
  obtain ⟨lt, bv, h1, h2, h3, h4⟩ := hr
  have hn' : (bs.length : Int) < n := by omega
  refine wp_bc hE hf rfl ?_
  simp only [b_frTake, List.map, getS]
  repeat first|(refine BG ?_;first|(refine BH ?_;first|(refine BI ?_;refine BM ?_)|(refine BJ ?_;first|refine BN ?_|refine BO ?_)|refine BV (v_nilc rfl) ?_|refine BV (v_ld1 rfl h1 rfl) ?_|refine BV (h2.lenv (by rfl)) ?_|refine BP ?_)|(refine BK ?_;first|refine BS rfl rfl ?_|refine BT rfl rfl ?_|refine BU rfl ?_)|(refine BL ?_;first|refine BQ ?_)|(refine BR ?_;try simp only [setS]))|refine AA ?_|refine AC ?_|refine AD ?_|refine AE ?_|refine AF rfl rfl ?_|refine AG rfl rfl ?_|refine AH ?_|refine AI ?_|refine AJ ?_|refine AK ?_|refine AL ?_|refine AM ?_|refine AN ?_|refine AO ?_|refine AP ?_|refine AQ rfl ?_|refine AR ?_|refine AS ?_|refine AT rfl ?_|refine AU rfl ?_|refine AW ?_|refine AX ?_|refine AY ?_|refine AZ ?_|refine BA rfl ?_|refine BB rfl ?_|refine BE ?_
  refine wr_pan rfl ?_
  repeat first|(refine BG ?_;first|(refine BH ?_;first|(refine BI ?_;refine BM ?_)|(refine BJ ?_;first|refine BN ?_|refine BO ?_)|refine BP ?_)|(refine BK ?_;first|refine BS rfl rfl ?_|refine BT rfl rfl ?_|refine BU rfl ?_)|(refine BL ?_;first|refine BQ ?_)|(refine BR ?_;try simp only [setS]))|refine AA ?_|refine AC ?_|refine AD ?_|refine AE ?_|refine AF rfl rfl ?_|refine AG rfl rfl ?_|refine AH ?_|refine AI ?_|refine AJ ?_|refine AK ?_|refine AL ?_|refine AM ?_|refine AN ?_|refine AO ?_|refine AP ?_|refine AQ rfl ?_|refine AR ?_|refine AS ?_|refine AT rfl ?_|refine AU rfl ?_|refine AW ?_|refine AX ?_|refine AY ?_|refine AZ ?_|refine BA rfl ?_|refine BB rfl ?_|refine BE ?_
  exact ⟨⟨_, _, rfl⟩, rfl⟩
theorem number_ok (hE : ∀ f e, E f = some e → e.plain) (hf : E 117 = some (.bc b_frNumber)) (ht : E 126 = some (.bc b_frTake)) (hc : E 85 = some (.bc b_clone)) (hg : E 112 = some (.bc b_octGet)) {h : Hp X} {g n m : Nat} {bs : List UInt8} (hr : Rdr h g m bs) (hn : n ≤ bs.length) (h7 : n ≤ 7) (hb : bs.length ≤ 1099511627776) :
    WF (lim E) 117 [.ptr g 0, .int .i64 n] h fun r h' => Rdr h' g m (bs.drop n) ∧ Keep (OneB g) h h' ∧ r = .int .i64 (be (bs.take n)) := by
  refine wf_bc hE hf rfl ?_
  simp only [b_frNumber, List.map, getS]
  repeat first|(refine BG ?_;first|(refine BH ?_;first|(refine BI ?_;refine BM ?_)|(refine BJ ?_;first|refine BN ?_|refine BO ?_)|refine BP ?_)|(refine BK ?_;first|refine BS rfl rfl ?_|refine BT rfl rfl ?_|refine BU rfl ?_)|(refine BL ?_;first|refine BQ ?_)|(refine BR ?_;try simp only [setS]))|refine AA ?_|refine AC ?_|refine AD ?_|refine AE ?_|refine AF rfl rfl ?_|refine AG rfl rfl ?_|refine AH ?_|refine AI ?_|refine AJ ?_|refine AK ?_|refine AL ?_|refine AM ?_|refine AN ?_|refine AO ?_|refine AP ?_|refine AQ rfl ?_|refine AR ?_|refine AS ?_|refine AT rfl ?_|refine AU rfl ?_|refine AW ?_|refine AX ?_|refine AY ?_|refine AZ ?_|refine BA rfl ?_|refine BB rfl ?_|refine BE ?_
  refine wr_call_e rfl ((take_ok hE ht hc hr hn hb).mono fun r k1 ⟨a1, a2, a3, a4⟩ => ?_)
  have hl0 : (bs.take n).length = n := by rw [List.length_take]; omega
  repeat first|(refine BG ?_;first|(refine BH ?_;first|(refine BI ?_;refine BM ?_)|(refine BJ ?_;first|refine BN ?_|refine BO ?_)|refine BP ?_)|(refine BK ?_;first|refine BS rfl rfl ?_|refine BT rfl rfl ?_|refine BU rfl ?_)|(refine BL ?_;first|refine BQ ?_)|(refine BR ?_;try simp only [setS]))|refine AA ?_|refine AC ?_|refine AD ?_|refine AE ?_|refine AF rfl rfl ?_|refine AG rfl rfl ?_|refine AH ?_|refine AI ?_|refine AJ ?_|refine AK ?_|refine AL ?_|refine AM ?_|refine AN ?_|refine AO ?_|refine AP ?_|refine AQ rfl ?_|refine AR ?_|refine AS ?_|refine AT rfl ?_|refine AU rfl ?_|refine AW ?_|refine AX ?_|refine AY ?_|refine AZ ?_|refine BA rfl ?_|refine BB rfl ?_|refine BE ?_
  refine wr_call_e rfl ((get_ok hE hg (n := n) a4.rs (by omega) (by omega)).mono fun r2 k2 ⟨e1, e2⟩ => ?_)
  subst e1 e2
  have e3 : (bs.take n).take n = bs.take n := by rw [List.take_take, Nat.min_self]
  rw [e3]
  have hlt := be_lt (bs.take n)
  rw [hl0] at hlt
  have h56 : be (bs.take n) < 72057594037927936 := Nat.lt_of_lt_of_le hlt (Nat.le_trans (Nat.pow_le_pow_right (by omega) h7) (by decide))
  repeat first|(refine BG ?_;first|(refine BH ?_;first|(refine BI ?_;refine BM ?_)|(refine BJ ?_;first|refine BN ?_|refine BO ?_)|refine BV (v_conv_i64 rfl (by omega)) ?_|refine BP ?_)|(refine BK ?_;first|refine BS rfl rfl ?_|refine BT rfl rfl ?_|refine BU rfl ?_)|(refine BL ?_;first|refine BQ ?_)|(refine BR ?_;try simp only [setS]))|refine AA ?_|refine AC ?_|refine AD ?_|refine AE ?_|refine AF rfl rfl ?_|refine AG rfl rfl ?_|refine AH ?_|refine AI ?_|refine AJ ?_|refine AK ?_|refine AL ?_|refine AM ?_|refine AN ?_|refine AO ?_|refine AP ?_|refine AQ rfl ?_|refine AR ?_|refine AS ?_|refine AT rfl ?_|refine AU rfl ?_|refine AW ?_|refine AX ?_|refine AY ?_|refine AZ ?_|refine BA rfl ?_|refine BB rfl ?_|refine BE ?_
  exact ⟨a1, a2, rfl⟩
theorem number_no (hE : ∀ f e, E f = some e → e.plain) (hf : E 117 = some (.bc b_frNumber)) (ht : E 126 = some (.bc b_frTake)) {h : Hp X} {g n m : Nat} {bs : List UInt8} (hr : Rdr h g m bs) (hn : bs.length < n) :
    WP (lim E) 117 [.ptr g 0, .int .i64 n] h fun v h' => (∃ ty x, v = .iface ty x) ∧ h' = h := by
  refine wp_bc hE hf rfl ?_
  simp only [b_frNumber, List.map, getS]
  repeat first|(refine BG ?_;first|(refine BH ?_;first|(refine BI ?_;refine BM ?_)|(refine BJ ?_;first|refine BN ?_|refine BO ?_)|refine BP ?_)|(refine BK ?_;first|refine BS rfl rfl ?_|refine BT rfl rfl ?_|refine BU rfl ?_)|(refine BL ?_;first|refine BQ ?_)|(refine BR ?_;try simp only [setS]))|refine AA ?_|refine AC ?_|refine AD ?_|refine AE ?_|refine AF rfl rfl ?_|refine AG rfl rfl ?_|refine AH ?_|refine AI ?_|refine AJ ?_|refine AK ?_|refine AL ?_|refine AM ?_|refine AN ?_|refine AO ?_|refine AP ?_|refine AQ rfl ?_|refine AR ?_|refine AS ?_|refine AT rfl ?_|refine AU rfl ?_|refine AW ?_|refine AX ?_|refine AY ?_|refine AZ ?_|refine BA rfl ?_|refine BB rfl ?_|refine BE ?_
  obtain ⟨v, h', e, q, rfl⟩ := (take_no hE ht hr hn).out
  refine wr_call_p rfl ⟨⟨v, h', e, ?_⟩⟩
  repeat first|(refine BG ?_;first|(refine BH ?_;first|(refine BI ?_;refine BM ?_)|(refine BJ ?_;first|refine BN ?_|refine BO ?_)|refine BP ?_)|(refine BK ?_;first|refine BS rfl rfl ?_|refine BT rfl rfl ?_|refine BU rfl ?_)|(refine BL ?_;first|refine BQ ?_)|(refine BR ?_;try simp only [setS]))|refine AA ?_|refine AC ?_|refine AD ?_|refine AE ?_|refine AF rfl rfl ?_|refine AG rfl rfl ?_|refine AH ?_|refine AI ?_|refine AJ ?_|refine AK ?_|refine AL ?_|refine AM ?_|refine AN ?_|refine AO ?_|refine AP ?_|refine AQ rfl ?_|refine AR ?_|refine AS ?_|refine AT rfl ?_|refine AU rfl ?_|refine AW ?_|refine AX ?_|refine AY ?_|refine AZ ?_|refine BA rfl ?_|refine BB rfl ?_|refine BE ?_
  exact ⟨q, rfl⟩
end
end Am
end Go.Proofs.Ythgcdoahoechhaa
