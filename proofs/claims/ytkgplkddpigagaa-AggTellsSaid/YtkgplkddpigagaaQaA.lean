/- Package rat: common, size, New, Of, Right. -/
import Derived.Test.YtkgplkddpigagaaGk
import Derived.Test.YtkgplkddpigagaaQaP
set_option linter.unusedVariables false
set_option linter.unusedSimpArgs false
namespace Go.Proofs.Ytkgplkddpigagaa
namespace Am
open Go.RowKit
set_option maxRecDepth 100000
def b_ratCommon : BF := ⟨12, [0, 1, 4, 6], (.seq (.reg [.mk none (.slot 2) (.mov (.mv (.const (.int .u64 0))))]) (.seq (.block 0 (.loop (.seq (.seq (.reg [.mk none (.env 5) (.mov (.mv (.slot 1))), .mk none (.slot 3) (.mov (.bin .gtr .no (.env 5) (.const (.int .u64 0))))]) (.cond (.slot 3) .skip (.exit 0))) (.block 1 (.dreg [(.mk none (.env 7) (.mov (.mv (.slot 1))), []), (.mk none (.env 8) (.mov (.mv (.slot 0))), []), (.mk none (.env 9) (.mov (.mv (.slot 1))), []), (.mk none (.env 10) (.mov (.bin .rem .no (.env 8) (.env 9))), []), (.mk none (.slot 0) (.mov (.mv (.env 7))), []), (.mk none (.slot 1) (.mov (.mv (.env 10))), [])]))))) (.seq (.reg [.mk none (.env 11) (.mov (.mv (.slot 0))), .mk none (.slot 2) (.mov (.mv (.env 11)))]) .ret))), [.slot (.slot 2)]⟩
def b_ratSize : BF := ⟨10, [0, 2, 4], (.seq (.reg [.mk none (.slot 1) (.mov (.mv (.const (.int .u64 0))))]) (.seq (.seq (.reg [.mk none (.env 3) (.mov (.mv (.slot 0))), .mk none (.slot 2) (.mov (.bin .lss .no (.env 3) (.const (.int .i64 0))))]) (.cond (.slot 2) (.seq (.reg [.mk none (.env 5) (.mov (.mv (.slot 0))), .mk none (.env 6) (.mov (.conv .u64 (.env 5))), .mk none (.env 7) (.mov (.neg (.env 6))), .mk none (.slot 1) (.mov (.mv (.env 7)))]) .ret) .skip)) (.seq (.reg [.mk none (.env 8) (.mov (.mv (.slot 0))), .mk none (.env 9) (.mov (.conv .u64 (.env 8))), .mk none (.slot 1) (.mov (.mv (.env 9)))]) .ret))), [.slot (.slot 1)]⟩
def b_ratNew : BF := ⟨48, [0, 1, 4, 5, 6, 7, 8, 9, 11, 31, 42], (.seq (.reg [.mk none (.slot 2) (.eff (.alloc [(.int .i64 0), (.int .i64 0)])), .mk none (.slot 3) (.mov (.mv (.const (.int .i64 0))))]) (.seq (.seq (.reg [.mk none (.env 10) (.mov (.mv (.slot 1))), .mk none (.slot 8) (.mov (.bin .eql .no (.env 10) (.const (.int .i64 0))))]) (.cond (.slot 8) (.seq (.reg [.mk none (.env 12) (.mov (.bld [(.int .i64 0), (.int .i64 0)] [])), .mk none .none (.eff (.store 2 (.slot 2) (.env 12))), .mk none (.slot 3) (.mov (.mv (.const (.int .i64 1))))]) .ret) .skip)) (.seq (.reg [.mk none (.env 13) (.mov (.mv (.slot 0))), .mk none (.env 14) (.call 79 [(.env 13)]), .mk none (.env 15) (.mov (.mv (.slot 1))), .mk none (.env 16) (.call 79 [(.env 15)]), .mk none (.slot 4) (.mov (.mv (.env 14))), .mk none (.slot 5) (.mov (.mv (.env 16)))]) (.seq (.reg [.mk none (.env 17) (.mov (.mv (.slot 4))), .mk none (.env 18) (.mov (.mv (.slot 5))), .mk none (.env 19) (.call 80 [(.env 17), (.env 18)]), .mk none (.slot 6) (.mov (.mv (.env 19)))]) (.seq (.dreg [(.mk none (.env 20) (.mov (.mv (.slot 4))), []), (.mk none (.env 21) (.mov (.mv (.slot 6))), []), (.mk none (.env 22) (.mov (.bin .quo .no (.env 20) (.env 21))), []), (.mk none (.env 23) (.mov (.mv (.slot 5))), []), (.mk none (.env 24) (.mov (.mv (.slot 6))), []), (.mk none (.env 25) (.mov (.bin .quo .no (.env 23) (.env 24))), []), (.mk none (.slot 4) (.mov (.mv (.env 22))), []), (.mk none (.slot 5) (.mov (.mv (.env 25))), [])]) (.seq (.seq (.reg [.mk none (.env 26) (.mov (.mv (.slot 4))), .mk none (.env 27) (.mov (.bin .gtr .no (.env 26) (.const (.int .u64 2147483647)))), .mk none (.env 28) (.mov (.mv (.env 27))), .mk (some ((.env 28), false)) (.env 29) (.mov (.mv (.slot 5))), .mk (some ((.env 28), false)) (.env 30) (.mov (.bin .gtr .no (.env 29) (.const (.int .u64 2147483647)))), .mk none (.slot 9) (.mov (.pick (.env 28) (.const (.bool true)) (.env 30)))]) (.cond (.slot 9) (.seq (.reg [.mk none (.env 32) (.mov (.bld [(.int .i64 0), (.int .i64 0)] [])), .mk none .none (.eff (.store 2 (.slot 2) (.env 32))), .mk none (.slot 3) (.mov (.mv (.const (.int .i64 23))))]) .ret) .skip)) (.seq (.reg [.mk none (.env 33) (.mov (.mv (.slot 4))), .mk none (.env 34) (.mov (.conv .i64 (.env 33))), .mk none (.env 35) (.mov (.mv (.slot 5))), .mk none (.env 36) (.mov (.conv .i64 (.env 35))), .mk none (.env 37) (.mov (.bld [(.int .i64 0), (.int .i64 0)] [(0, 1, (.env 34)), (1, 1, (.env 36))])), .mk none (.slot 7) (.eff (.alloc [(.int .i64 0), (.int .i64 0)])), .mk none .none (.eff (.store 2 (.slot 7) (.env 37)))]) (.seq (.seq (.reg [.mk none (.env 38) (.mov (.mv (.slot 0))), .mk none (.env 39) (.mov (.bin .lss .no (.env 38) (.const (.int .i64 0)))), .mk none (.env 40) (.mov (.mv (.slot 1))), .mk none (.env 41) (.mov (.bin .lss .no (.env 40) (.const (.int .i64 0)))), .mk none (.slot 10) (.mov (.bin .neq .bool (.env 39) (.env 41)))]) (.cond (.slot 10) (.reg [.mk none (.env 43) (.mov (.faddr 0 (.slot 7))), .mk none (.env 44) (.mov (.ld1 (.env 43))), .mk none (.env 45) (.mov (.neg (.env 44))), .mk none (.env 46) (.mov (.faddr 0 (.slot 7))), .mk none .none (.eff (.store 1 (.env 46) (.env 45)))]) .skip)) (.seq (.reg [.mk none (.env 47) (.mov (.ldn 2 (.slot 7))), .mk none .none (.eff (.store 2 (.slot 2) (.env 47))), .mk none (.slot 3) (.mov (.mv (.const (.int .i64 0))))]) .ret))))))))), [.celln 2 (.slot 2), .slot (.slot 3)]⟩
def b_ratOf : BF := ⟨8, [0, 2, 3], (.seq (.reg [.mk none (.slot 1) (.eff (.alloc [(.int .i64 0), (.int .i64 0)])), .mk none (.slot 2) (.mov (.mv (.const (.int .i64 0))))]) (.seq (.reg [.mk none (.env 4) (.mov (.mv (.slot 0))), .mk none (.env 5) (.call 51 [(.env 4), (.const (.int .i64 1))]), .mk none (.env 6) (.mov (.ext 0 (.env 5))), .mk none (.env 7) (.mov (.ext 1 (.env 5))), .mk none .none (.eff (.store 2 (.slot 1) (.env 6))), .mk none (.slot 2) (.mov (.mv (.env 7)))]) .ret)), [.celln 2 (.slot 1), .slot (.slot 2)]⟩
def b_ratRight : BF := ⟨25, [0, 1, 2, 3, 4], (.seq (.reg [.mk none (.slot 1) (.eff (.box (.slot 0))), .mk none (.slot 2) (.mov (.mv (.const (.bool false))))]) (.seq (.reg [.mk none (.env 6) (.mov (.faddr 0 (.slot 1))), .mk none (.env 7) (.mov (.ld1 (.env 6))), .mk none (.env 8) (.mov (.faddr 1 (.slot 1))), .mk none (.env 9) (.mov (.ld1 (.env 8))), .mk none (.env 10) (.call 51 [(.env 7), (.env 9)]), .mk none (.env 5) (.mov (.mv (.env 10))), .mk none (.env 11) (.mov (.ext 0 (.env 5))), .mk none (.env 12) (.mov (.ext 1 (.env 5))), .mk none (.slot 3) (.eff (.alloc [(.int .i64 0), (.int .i64 0)])), .mk none .none (.eff (.store 2 (.slot 3) (.env 11))), .mk none (.slot 4) (.mov (.mv (.env 12)))]) (.seq (.reg [.mk none (.env 13) (.mov (.faddr 1 (.slot 1))), .mk none (.env 14) (.mov (.ld1 (.env 13))), .mk none (.env 15) (.mov (.bin .gtr .no (.env 14) (.const (.int .i64 0)))), .mk none (.env 16) (.mov (.mv (.env 15))), .mk (some ((.env 16), true)) (.env 17) (.mov (.mv (.slot 4))), .mk (some ((.env 16), true)) (.env 18) (.mov (.bin .eql .no (.env 17) (.const (.int .i64 0)))), .mk none (.env 19) (.mov (.pick (.env 16) (.env 18) (.const (.bool false)))), .mk none (.env 20) (.mov (.mv (.env 19))), .mk (some ((.env 20), true)) (.env 21) (.mov (.ldn 2 (.slot 3))), .mk (some ((.env 20), true)) (.env 22) (.mov (.ldn 2 (.slot 1))), .mk (some ((.env 20), true)) (.env 23) (.mov (.seq false [0, 0] (.env 21) (.env 22))), .mk none (.env 24) (.mov (.pick (.env 20) (.env 23) (.const (.bool false)))), .mk none (.slot 2) (.mov (.mv (.env 24)))]) .ret))), [.slot (.slot 2)]⟩
def qv (q : QQ) : AV := .agg [.int .i64 q.1, .int .i64 q.2]
def qe (r : QQ × Int) : AV := .tup [qv r.1, .int .i64 r.2]
def I64 (n : Int) : Prop := -9223372036854775808 ≤ n ∧ n ≤ 9223372036854775807
section
variable {X : Type} {e : En} {t : List AV} {h : Hp X}
theorem wru {n : Int} (h : 0 ≤ n ∧ n < 18446744073709551616) : wr .u64 n = n := by
  have e : n % 2 ^ 64 = n := by omega
  simp only [wr, IntKind.wrap, IntKind.signed, IntKind.bits, e]
  simp
theorem wru_neg {n : Int} (h : -9223372036854775808 ≤ n ∧ n < 0) : wr .u64 n = n + 18446744073709551616 := by
  have e : n % 2 ^ 64 = n + 18446744073709551616 := by omega
  simp only [wr, IntKind.wrap, IntKind.signed, IntKind.bits, e]
  simp
theorem v_convu_neg {x : Od} {a : Int} (hx : x.ev e t = .int .i64 a) (ha : -9223372036854775808 ≤ a ∧ a < 0) : (Mv.conv .u64 x).ev e t h = some (.int .u64 (a + 18446744073709551616)) := by
  simp only [Mv.ev, hx, AV.onInt, wru_neg ha]
theorem v_convu {x : Od} {a : Int} (hx : x.ev e t = .int .i64 a) (ha : 0 ≤ a ∧ a < 18446744073709551616) : (Mv.conv .u64 x).ev e t h = some (.int .u64 a) := by
  simp only [Mv.ev, hx, AV.onInt, wru ha]
theorem v_convi {x : Od} {a : Int} (hx : x.ev e t = .int .u64 a) (ha : 0 ≤ a ∧ a < 9223372036854775808) : (Mv.conv .i64 x).ev e t h = some (.int .i64 a) := by
  simp only [Mv.ev, hx, AV.onInt, wr64 (show -9223372036854775808 ≤ a ∧ a < 9223372036854775808 by omega)]
theorem v_negu {x : Od} {a : Int} (hx : x.ev e t = .int .u64 (a + 18446744073709551616)) (ha : -9223372036854775808 ≤ a ∧ a < 0) : (Mv.neg x).ev e t h = some (.int .u64 (a.natAbs : Nat)) := by
  simp only [Mv.ev, hx, AV.onInt]
  have e1 : (0 - (a + 18446744073709551616)) % 2 ^ 64 = ((a.natAbs : Nat) : Int) := by omega
  have : wr .u64 (0 - (a + 18446744073709551616)) = ((a.natAbs : Nat) : Int) := by
    simp only [wr, IntKind.wrap, IntKind.signed, IntKind.bits, e1]
    simp
  rw [this]
theorem v_remn {q : Eq} {x y : Od} {k : IntKind} {a b : Nat} (hx : x.ev e t = .int k (a : Int)) (hy : y.ev e t = .int k (b : Int)) (hb : 0 < b) : (Mv.bin .rem q x y).ev e t h = some (.int k ((a % b : Nat) : Int)) := by
  rw [v_rem hx hy (by omega)]
  rfl
theorem v_quou {q : Eq} {x y : Od} {a b : Nat} (hx : x.ev e t = .int .u64 (a : Int)) (hy : y.ev e t = .int .u64 (b : Int)) (hb : 0 < b) (ha : a < 18446744073709551616) : (Mv.bin .quo q x y).ev e t h = some (.int .u64 ((a / b : Nat) : Int)) := by
  have e1 : ((a : Int)).tdiv (b : Int) = ((a / b : Nat) : Int) := rfl
  have hle := Nat.div_le_self a b
  simp only [Mv.ev, hx, hy, Am.bin, AV.onInt, isShift, intOp]
  simp only [Bool.false_or, decide_true, cond_true]
  have h0 : 0 ≤ ((a / b : Nat) : Int) := Int.natCast_nonneg _
  rw [if_neg (by omega), e1, wru ⟨h0, by omega⟩]
theorem v_seq2 {ng : Bool} {x y : Od} {a b : QQ} (hx : x.ev e t = .agg [.int .i64 a.1, .int .i64 a.2]) (hy : y.ev e t = .agg [.int .i64 b.1, .int .i64 b.2]) : (Mv.seq ng [0, 0] x y).ev e t h = some (.bool (decide (a = b) != ng)) := by
  obtain ⟨a1, a2⟩ := a
  obtain ⟨b1, b2⟩ := b
  simp only [Mv.ev, hx, hy, AV.onAgg, eqFs, eqF, Nat.beq_refl, decide_true, Bool.and_self, cond_true]
  by_cases h1 : a1 = b1
  · by_cases h2 : a2 = b2
    · rw [show (a1 == b1) = true by simp [h1], show (a2 == b2) = true by simp [h2], h1, h2, decide_eq_true rfl]
    · rw [show (a1 == b1) = true by simp [h1], show (a2 == b2) = false by simp [h2], show decide (((a1, a2) : QQ) = (b1, b2)) = false by simp [h2]]
  · rw [show (a1 == b1) = false by simp [h1], show decide (((a1, a2) : QQ) = (b1, b2)) = false by simp [h1]]
theorem v_bne2 {x y : Od} {a b : Bool} {c : Bool} (hx : x.ev e t = .bool a) (hy : y.ev e t = .bool b) (hc : (a != b) = c) : (Mv.bin .neq .bool x y).ev e t h = some (.bool c) := by
  rw [v_bne hx hy, hc]
theorem fin_q {g : Nat} {x y : Od} {q : QQ} {er : Int} {P : AV → Hp X → Prop} (bx : Bx h g [.int .i64 q.1, .int .i64 q.2]) (hx : x.ev [] t = .ptr g 0) (hy : y.ev [] t = .int .i64 er) (hp : P (qe (q, er)) h) : finQ [.celln 2 x, .slot y] P (.ret t h) := by
  refine AT (l := [.agg [.int .i64 q.1, .int .i64 q.2], .int .i64 er]) ?_ hp
  have h1 : (Rs.celln 2 x).ev t h = some (.agg [.int .i64 q.1, .int .i64 q.2]) := v_bxn bx hx (Nat.le_refl _)
  have h2 : (Rs.slot y).ev t h = some (.int .i64 er) := congrArg some hy
  simp only [resV, h1, h2]
theorem int_all2 {a b : Int} : allOne [.int .i64 a, .int .i64 b] = true := rfl
end
section
variable {X : Type} {E : Nat → Option (Ent X)}
theorem size_ok (hE : ∀ f e, E f = some e → e.plain) (hf : E 79 = some (.bc b_ratSize)) {h : Hp X} {n : Int} (hn : I64 n) : WF (lim E) 79 [.int .i64 n] h fun x h' => h' = h ∧ x = .int .u64 (n.natAbs : Nat) := by
  have n1 := hn.1
  have n2 := hn.2
  refine wf_bc hE hf rfl ?_
  simp only [b_ratSize, List.map, getS]
  by_cases h0 : n < 0
  · repeat first|(refine BG ?_;first|(refine BH ?_;first|(refine BI ?_;refine BM ?_)|(refine BJ ?_;first|refine BN ?_|refine BO ?_)|refine BV (v_convu_neg rfl (by omega)) ?_|refine BV (v_negu rfl (by omega)) ?_|refine BP ?_)|(refine BK ?_;first|refine BS rfl rfl ?_|refine BT rfl rfl ?_|refine BU rfl ?_)|(refine BL ?_;first|refine BQ ?_)|(refine BR ?_;try simp only [setS]))|refine AA ?_|refine AC ?_|refine AD ?_|refine AE ?_|refine AF rfl rfl ?_|refine AG rfl rfl ?_|refine AH ?_|refine AI ?_|refine AJ ?_|refine AK ?_|refine AL ?_|refine AM ?_|refine AN ?_|refine AO ?_|refine AP ?_|refine AQ rfl ?_|refine AR ?_|refine AS ?_|refine AT rfl ?_|refine AU rfl ?_
    exact ⟨rfl, rfl⟩
  · repeat first|(refine BG ?_;first|(refine BH ?_;first|(refine BI ?_;refine BM ?_)|(refine BJ ?_;first|refine BN ?_|refine BO ?_)|refine BV (v_convu rfl (by omega)) ?_|refine BP ?_)|(refine BK ?_;first|refine BS rfl rfl ?_|refine BT rfl rfl ?_|refine BU rfl ?_)|(refine BL ?_;first|refine BQ ?_)|(refine BR ?_;try simp only [setS]))|refine AA ?_|refine AC ?_|refine AD ?_|refine AE ?_|refine AF rfl rfl ?_|refine AG rfl rfl ?_|refine AH ?_|refine AI ?_|refine AJ ?_|refine AK ?_|refine AL ?_|refine AM ?_|refine AN ?_|refine AO ?_|refine AP ?_|refine AQ rfl ?_|refine AR ?_|refine AS ?_|refine AT rfl ?_|refine AU rfl ?_
    refine ⟨rfl, ?_⟩
    have e : n = ((n.natAbs : Nat) : Int) := by omega
    exact congrArg (AV.int .u64) e
theorem common_ok (hE : ∀ f e, E f = some e → e.plain) (hf : E 80 = some (.bc b_ratCommon)) {h : Hp X} (a b : Nat) : WF (lim E) 80 [.int .u64 a, .int .u64 b] h fun x h' => h' = h ∧ x = .int .u64 (Nat.gcd a b) := by
  refine wf_bc hE hf rfl ?_
  simp only [b_ratCommon, List.map, getS]
  repeat first|(refine BG ?_;first|(refine BH ?_;first|(refine BI ?_;refine BM ?_)|(refine BJ ?_;first|refine BN ?_|refine BO ?_)|refine BP ?_)|(refine BK ?_;first|refine BS rfl rfl ?_|refine BT rfl rfl ?_|refine BU rfl ?_)|(refine BL ?_;first|refine BQ ?_)|(refine BR ?_;try simp only [setS]))|refine AA ?_|refine AC ?_|refine AD ?_|refine AE ?_|refine AF rfl rfl ?_|refine AG rfl rfl ?_|refine AH ?_|refine AI ?_|refine AJ ?_|refine AK ?_|refine AL ?_|refine AM ?_|refine AN ?_|refine AO ?_|refine AP ?_|refine AQ rfl ?_|refine AR ?_|refine AS ?_|refine AT rfl ?_|refine AU rfl ?_
  refine wb_loop (fun n t hh => ∃ (c d : Nat) (s3 : AV), n = d ∧ hh = h ∧ Nat.gcd c d = Nat.gcd a b ∧ t = [.int .u64 c, .int .u64 d, .int .u64 0, s3]) ?_ b _ _ ⟨a, b, _, rfl, rfl, rfl, rfl⟩
  rintro n t hh ⟨c, d, s3, hm, eh, hg, rfl⟩
  have eh := eh.symm
  subst eh
  by_cases hd : 0 < d
  · repeat first|(refine BG ?_;first|(refine BH ?_;first|(refine BI ?_;refine BM ?_)|(refine BJ ?_;first|refine BN ?_|refine BO ?_)|refine BP ?_)|(refine BK ?_;first|refine BS rfl rfl ?_|refine BT rfl rfl ?_|refine BU rfl ?_)|(refine BL ?_;first|refine BQ ?_)|(refine BR ?_;try simp only [setS]))|refine AA ?_|refine AC ?_|refine AD ?_|refine AE ?_|refine AF rfl rfl ?_|refine AG rfl rfl ?_|refine AH ?_|refine AI ?_|refine AJ ?_|refine AK ?_|refine AL ?_|refine AM ?_|refine AN ?_|refine AO ?_|refine AP ?_|refine AQ rfl ?_|refine AR ?_|refine AS ?_|refine AT rfl ?_|refine AU rfl ?_
    repeat first|(refine BG ?_;first|(refine BH ?_;first|(refine BI ?_;refine BM ?_)|(refine BJ ?_;first|refine BN ?_|refine BO ?_)|refine BV (v_remn rfl rfl hd) ?_|refine BP ?_)|(refine BK ?_;first|refine BS rfl rfl ?_|refine BT rfl rfl ?_|refine BU rfl ?_)|(refine BL ?_;first|refine BQ ?_)|(refine BR ?_;try simp only [setS]))|(refine BX ?_;first|refine BY rfl ?_|(refine BZ ?_;refine CA ?_)|refine CB (v_remn rfl rfl hd) ?_|refine CC ?_|(refine CD ?_;try simp only [setS]))|refine AA ?_|refine AC ?_|refine AD ?_|refine AE ?_|refine AF rfl rfl ?_|refine AG rfl rfl ?_|refine AH ?_|refine AI ?_|refine AJ ?_|refine AK ?_|refine AL ?_|refine AM ?_|refine AN ?_|refine AO ?_|refine AP ?_|refine AQ rfl ?_|refine AR ?_|refine AS ?_|refine AT rfl ?_|refine AU rfl ?_
    have hlt := Nat.mod_lt c hd
    refine round_norm (c % d) (by omega) ⟨d, c % d, _, rfl, rfl, ?_, rfl⟩
    rw [← hg, Nat.gcd_comm c d, Nat.gcd_rec d c, Nat.gcd_comm]
  · have hd0 : d = 0 := by omega
    subst hd0
    rw [Nat.gcd_zero_right] at hg
    repeat first|(refine BG ?_;first|(refine BH ?_;first|(refine BI ?_;refine BM ?_)|(refine BJ ?_;first|refine BN ?_|refine BO ?_)|refine BP ?_)|(refine BK ?_;first|refine BS rfl rfl ?_|refine BT rfl rfl ?_|refine BU rfl ?_)|(refine BL ?_;first|refine BQ ?_)|(refine BR ?_;try simp only [setS]))|refine AA ?_|refine AC ?_|refine AD ?_|refine AE ?_|refine AF rfl rfl ?_|refine AG rfl rfl ?_|refine AH ?_|refine AI ?_|refine AJ ?_|refine AK ?_|refine AL ?_|refine AM ?_|refine AN ?_|refine AO ?_|refine AP ?_|refine AQ rfl ?_|refine AR ?_|refine AS ?_|refine AT rfl ?_|refine AU rfl ?_
    exact ⟨rfl, by rw [← hg]; rfl⟩
structure QaT (E : Nat → Option (Ent X)) : Prop where
  size : E 79 = some (.bc b_ratSize)
  common : E 80 = some (.bc b_ratCommon)
  new : E 51 = some (.bc b_ratNew)
theorem newq_ok (hE : ∀ f e, E f = some e → e.plain) (T : QaT E) {h : Hp X} {n d : Int} (hn : I64 n) (hd : I64 d) : WF (lim E) 51 [.int .i64 n, .int .i64 d] h fun x h' => Keep NoB h h' ∧ x = qe (newF n d) := by
  have n1 := hn.1
  have n2 := hn.2
  have d1 := hd.1
  have d2 := hd.2
  refine wf_bc hE T.new rfl ?_
  simp only [b_ratNew, List.map, getS]
  have bx : Bx (h.push (.rw [.int .i64 0, .int .i64 0])) h.n [.int .i64 0, .int .i64 0] := bx_push
  have kp : Keep NoB h (h.push (.rw [.int .i64 0, .int .i64 0])) := Keep.push _ _ _
  by_cases h0 : d = 0
  · subst h0
    have e : newF n 0 = ((0, 0), 1) := by unfold newF; rw [if_pos rfl]
    rw [e]
    repeat first|(refine BG ?_;first|(refine BH ?_;first|(refine BI ?_;refine BM ?_)|(refine BJ ?_;first|refine BN ?_|refine BO ?_)|refine BP ?_)|(refine BK ?_;first|refine BS rfl rfl ?_|refine BT rfl rfl ?_|refine BU rfl ?_)|(refine BL ?_;first|refine BW (ef_bxn bx rfl rfl rfl rfl (Nat.le_refl _)) ?_|refine BQ ?_)|(refine BR ?_;try simp only [setS]))|refine AA ?_|refine AC ?_|refine AD ?_|refine AE ?_|refine AF rfl rfl ?_|refine AG rfl rfl ?_|refine AH ?_|refine AI ?_|refine AJ ?_|refine AK ?_|refine AL ?_|refine AM ?_|refine AN ?_|refine AO ?_|refine AP ?_|refine AQ rfl ?_|refine AR ?_|refine AS ?_|refine AT rfl ?_|refine AU rfl ?_
    exact fin_q (q := (0, 0)) (er := 1) bx.put rfl rfl ⟨kp.own (Keep.put _ _ _ (S := OneB h.n) rfl) (fun k q => Nat.le_of_eq q.symm), rfl⟩
  · have hg : 0 < gq n d := Nat.gcd_pos_of_pos_right _ (by omega)
    repeat first|(refine BG ?_;first|(refine BH ?_;first|(refine BI ?_;refine BM ?_)|(refine BJ ?_;first|refine BN ?_|refine BO ?_)|refine BP ?_)|(refine BK ?_;first|refine BS rfl rfl ?_|refine BT rfl rfl ?_|refine BU rfl ?_)|(refine BL ?_;first|refine BQ ?_)|(refine BR ?_;try simp only [setS]))|refine AA ?_|refine AC ?_|refine AD ?_|refine AE ?_|refine AF rfl rfl ?_|refine AG rfl rfl ?_|refine AH ?_|refine AI ?_|refine AJ ?_|refine AK ?_|refine AL ?_|refine AM ?_|refine AN ?_|refine AO ?_|refine AP ?_|refine AQ rfl ?_|refine AR ?_|refine AS ?_|refine AT rfl ?_|refine AU rfl ?_
    refine wr_call_e rfl ((size_ok hE T.size hn).mono fun x h1 ⟨e1, e2⟩ => ?_)
    subst e2
    have e1 := e1.symm
    subst e1
    repeat first|(refine BG ?_;first|(refine BH ?_;first|(refine BI ?_;refine BM ?_)|(refine BJ ?_;first|refine BN ?_|refine BO ?_)|refine BP ?_)|(refine BK ?_;first|refine BS rfl rfl ?_|refine BT rfl rfl ?_|refine BU rfl ?_)|(refine BL ?_;first|refine BQ ?_)|(refine BR ?_;try simp only [setS]))|refine AA ?_|refine AC ?_|refine AD ?_|refine AE ?_|refine AF rfl rfl ?_|refine AG rfl rfl ?_|refine AH ?_|refine AI ?_|refine AJ ?_|refine AK ?_|refine AL ?_|refine AM ?_|refine AN ?_|refine AO ?_|refine AP ?_|refine AQ rfl ?_|refine AR ?_|refine AS ?_|refine AT rfl ?_|refine AU rfl ?_
    refine wr_call_e rfl ((size_ok hE T.size hd).mono fun x h1 ⟨e1, e2⟩ => ?_)
    subst e2
    have e1 := e1.symm
    subst e1
    repeat first|(refine BG ?_;first|(refine BH ?_;first|(refine BI ?_;refine BM ?_)|(refine BJ ?_;first|refine BN ?_|refine BO ?_)|refine BP ?_)|(refine BK ?_;first|refine BS rfl rfl ?_|refine BT rfl rfl ?_|refine BU rfl ?_)|(refine BL ?_;first|refine BQ ?_)|(refine BR ?_;try simp only [setS]))|refine AA ?_|refine AC ?_|refine AD ?_|refine AE ?_|refine AF rfl rfl ?_|refine AG rfl rfl ?_|refine AH ?_|refine AI ?_|refine AJ ?_|refine AK ?_|refine AL ?_|refine AM ?_|refine AN ?_|refine AO ?_|refine AP ?_|refine AQ rfl ?_|refine AR ?_|refine AS ?_|refine AT rfl ?_|refine AU rfl ?_
    refine wr_call_e rfl ((common_ok hE T.common n.natAbs d.natAbs).mono fun x h1 ⟨e1, e2⟩ => ?_)
    subst e2
    have e1 := e1.symm
    subst e1
    repeat first|(refine BG ?_;first|(refine BH ?_;first|(refine BI ?_;refine BM ?_)|(refine BJ ?_;first|refine BN ?_|refine BO ?_)|refine BP ?_)|(refine BK ?_;first|refine BS rfl rfl ?_|refine BT rfl rfl ?_|refine BU rfl ?_)|(refine BL ?_;first|refine BQ ?_)|(refine BR ?_;try simp only [setS]))|refine AA ?_|refine AC ?_|refine AD ?_|refine AE ?_|refine AF rfl rfl ?_|refine AG rfl rfl ?_|refine AH ?_|refine AI ?_|refine AJ ?_|refine AK ?_|refine AL ?_|refine AM ?_|refine AN ?_|refine AO ?_|refine AP ?_|refine AQ rfl ?_|refine AR ?_|refine AS ?_|refine AT rfl ?_|refine AU rfl ?_
    have hn64 : n.natAbs < 18446744073709551616 := by omega
    have hd64 : d.natAbs < 18446744073709551616 := by omega
    have hg' : 0 < n.natAbs.gcd d.natAbs := hg
    have enew : newF n d = if maxN < n.natAbs / gq n d ∨ maxN < d.natAbs / gq n d then ((0, 0), 23) else ((if decide (n < 0) = decide (d < 0) then ((n.natAbs / gq n d : Nat) : Int) else -((n.natAbs / gq n d : Nat) : Int), ((d.natAbs / gq n d : Nat) : Int)), 0) := by unfold newF; rw [if_neg h0]
    unfold gq at enew
    rw [enew]
    have hAn := Nat.div_le_self n.natAbs (n.natAbs.gcd d.natAbs)
    have hBn := Nat.div_le_self d.natAbs (n.natAbs.gcd d.natAbs)
    repeat first|(refine BG ?_;first|(refine BH ?_;first|(refine BI ?_;refine BM ?_)|(refine BJ ?_;first|refine BN ?_|refine BO ?_)|refine BV (v_quou rfl rfl hg' hn64) ?_|refine BV (v_quou rfl rfl hg' hd64) ?_|refine BP ?_)|(refine BK ?_;first|refine BS rfl rfl ?_|refine BT rfl rfl ?_|refine BU rfl ?_)|(refine BL ?_;first|refine BQ ?_)|(refine BR ?_;try simp only [setS]))|(refine BX ?_;first|refine BY rfl ?_|(refine BZ ?_;refine CA ?_)|refine CB (v_quou rfl rfl hg' hn64) ?_|refine CB (v_quou rfl rfl hg' hd64) ?_|refine CC ?_|(refine CD ?_;try simp only [setS]))|refine AA ?_|refine AC ?_|refine AD ?_|refine AE ?_|refine AF rfl rfl ?_|refine AG rfl rfl ?_|refine AH ?_|refine AI ?_|refine AJ ?_|refine AK ?_|refine AL ?_|refine AM ?_|refine AN ?_|refine AO ?_|refine AP ?_|refine AQ rfl ?_|refine AR ?_|refine AS ?_|refine AT rfl ?_|refine AU rfl ?_
    generalize n.natAbs / n.natAbs.gcd d.natAbs = A at *
    generalize d.natAbs / n.natAbs.gcd d.natAbs = B at *
    generalize h.push (.rw [.int .i64 0, .int .i64 0]) = h1 at *
    by_cases hA : maxN < A
    · rw [if_pos (.inl hA), decide_eq_true (show (2147483647 : Int) < (A : Nat) by unfold maxN at hA; omega)]
      repeat first|(refine BG ?_;first|(refine BH ?_;first|(refine BI ?_;refine BM ?_)|(refine BJ ?_;first|refine BN ?_|refine BO ?_)|refine BP ?_)|(refine BK ?_;first|refine BS rfl rfl ?_|refine BT rfl rfl ?_|refine BU rfl ?_)|(refine BL ?_;first|refine BW (ef_bxn bx rfl rfl rfl rfl (Nat.le_refl _)) ?_|refine BQ ?_)|(refine BR ?_;try simp only [setS]))|refine AA ?_|refine AC ?_|refine AD ?_|refine AE ?_|refine AF rfl rfl ?_|refine AG rfl rfl ?_|refine AH ?_|refine AI ?_|refine AJ ?_|refine AK ?_|refine AL ?_|refine AM ?_|refine AN ?_|refine AO ?_|refine AP ?_|refine AQ rfl ?_|refine AR ?_|refine AS ?_|refine AT rfl ?_|refine AU rfl ?_
      exact fin_q (q := (0, 0)) (er := 23) bx.put rfl rfl ⟨kp.own (Keep.put _ _ _ (S := OneB h.n) rfl) (fun k q => Nat.le_of_eq q.symm), rfl⟩
    · rw [decide_eq_false (show ¬ (2147483647 : Int) < (A : Nat) by unfold maxN at hA; omega)]
      by_cases hB : maxN < B
      · have hB' : (2147483647 : Int) < (B : Nat) := by unfold maxN at hB; omega
        rw [if_pos (.inr hB)]
        repeat first|(refine BG ?_;first|(refine BH ?_;first|(refine BI ?_;refine BM ?_)|(refine BJ ?_;first|refine BN ?_|refine BO ?_)|refine BP ?_)|(refine BK ?_;first|refine BS rfl rfl ?_|refine BT rfl rfl ?_|refine BU rfl ?_)|(refine BL ?_;first|refine BW (ef_bxn bx rfl rfl rfl rfl (Nat.le_refl _)) ?_|refine BQ ?_)|(refine BR ?_;try simp only [setS]))|refine AA ?_|refine AC ?_|refine AD ?_|refine AE ?_|refine AF rfl rfl ?_|refine AG rfl rfl ?_|refine AH ?_|refine AI ?_|refine AJ ?_|refine AK ?_|refine AL ?_|refine AM ?_|refine AN ?_|refine AO ?_|refine AP ?_|refine AQ rfl ?_|refine AR ?_|refine AS ?_|refine AT rfl ?_|refine AU rfl ?_
        exact fin_q (q := (0, 0)) (er := 23) bx.put rfl rfl ⟨kp.own (Keep.put _ _ _ (S := OneB h.n) rfl) (fun k q => Nat.le_of_eq q.symm), rfl⟩
      · have hB' : ¬ (2147483647 : Int) < (B : Nat) := by unfold maxN at hB; omega
        have hA' : (A : Int) ≤ 2147483647 := by unfold maxN at hA; omega
        rw [if_neg (by rintro (q | q); exact hA q; exact hB q)]
        have hlt := bx.lt
        have bx2 : Bx (h1.push (.rw [.int .i64 0, .int .i64 0])) h1.n [.int .i64 0, .int .i64 0] := bx_push
        have kq : Keep NoB h1 (h1.push (.rw [.int .i64 0, .int .i64 0])) := Keep.push _ _ _
        have bx1 := bx.up kq
        repeat first|(refine BG ?_;first|(refine BH ?_;first|(refine BI ?_;refine BM ?_)|(refine BJ ?_;first|refine BN ?_|refine BO ?_)|refine BV (v_convi rfl (by omega)) ?_|refine BP ?_)|(refine BK ?_;first|refine BS rfl rfl ?_|refine BT rfl rfl ?_|refine BU rfl ?_)|(refine BL ?_;first|refine BW (ef_bxn bx2 rfl rfl rfl rfl (Nat.le_refl _)) ?_|refine BQ ?_)|(refine BR ?_;try simp only [setS]))|refine AA ?_|refine AC ?_|refine AD ?_|refine AE ?_|refine AF rfl rfl ?_|refine AG rfl rfl ?_|refine AH ?_|refine AI ?_|refine AJ ?_|refine AK ?_|refine AL ?_|refine AM ?_|refine AN ?_|refine AO ?_|refine AP ?_|refine AQ rfl ?_|refine AR ?_|refine AS ?_|refine AT rfl ?_|refine AU rfl ?_
        refine wb_hq (h' := (h1.push (.rw [.int .i64 0, .int .i64 0])).put h1.n (.rw [.int .i64 A, .int .i64 B])) rfl ?_
        have kr : Keep (OneB h1.n) (h1.push (.rw [.int .i64 0, .int .i64 0])) ((h1.push (.rw [.int .i64 0, .int .i64 0])).put h1.n (.rw [.int .i64 A, .int .i64 B])) := Keep.put _ _ _ rfl
        have k3 : Keep NoB h1 ((h1.push (.rw [.int .i64 0, .int .i64 0])).put h1.n (.rw [.int .i64 A, .int .i64 B])) := kq.own kr (fun k q => Nat.le_of_eq q.symm)
        have bx3 : Bx ((h1.push (.rw [.int .i64 0, .int .i64 0])).put h1.n (.rw [.int .i64 A, .int .i64 B])) h1.n [.int .i64 A, .int .i64 B] := bx2.put
        have bx1 := bx.up k3
        generalize (h1.push (.rw [.int .i64 0, .int .i64 0])).put h1.n (.rw [.int .i64 A, .int .i64 B]) = h3 at *
        have hne : h.n ≠ h1.n := by omega
        by_cases hs : decide (n < 0) = decide (d < 0)
        · rw [if_pos hs]
          have hs2 : (!(decide (n < 0) == decide (d < 0))) = false := by rw [hs]; simp
          rw [hs2]
          repeat first|(refine BG ?_;first|(refine BH ?_;first|(refine BI ?_;refine BM ?_)|(refine BJ ?_;first|refine BN ?_|refine BO ?_)|refine BV (v_bxn bx3 rfl (Nat.le_refl _)) ?_|refine BP ?_)|(refine BK ?_;first|refine BS rfl rfl ?_|refine BT rfl rfl ?_|refine BU rfl ?_)|(refine BL ?_;first|refine BW (ef_bxn bx1 rfl rfl rfl rfl (Nat.le_refl _)) ?_|refine BQ ?_)|(refine BR ?_;try simp only [setS]))|refine AA ?_|refine AC ?_|refine AD ?_|refine AE ?_|refine AF rfl rfl ?_|refine AG rfl rfl ?_|refine AH ?_|refine AI ?_|refine AJ ?_|refine AK ?_|refine AL ?_|refine AM ?_|refine AN ?_|refine AO ?_|refine AP ?_|refine AQ rfl ?_|refine AR ?_|refine AS ?_|refine AT rfl ?_|refine AU rfl ?_
          exact fin_q (q := ((A : Int), (B : Int))) (er := 0) bx1.put rfl rfl ⟨(kp.and k3).own (Keep.put _ _ _ (S := OneB h.n) rfl) (fun k q => Nat.le_of_eq q.symm), rfl⟩
        · rw [if_neg hs]
          have hs2 : (!(decide (n < 0) == decide (d < 0))) = true := by simp [hs]
          rw [hs2]
          repeat first|(refine BG ?_;first|(refine BH ?_;first|(refine BI ?_;refine BM ?_)|(refine BJ ?_;first|refine BN ?_|refine BO ?_)|refine BV (v_bx bx3 rfl rfl) ?_|refine BV (v_neg rfl (by omega)) ?_|refine BP ?_)|(refine BK ?_;first|refine BS rfl rfl ?_|refine BT rfl rfl ?_|refine BU rfl ?_)|(refine BL ?_;first|refine BW (ef_bx bx3 rfl rfl ⟨rfl, rfl⟩ (by exact Nat.le_of_ble_eq_true rfl)) ?_|refine BQ ?_)|(refine BR ?_;try simp only [setS]))|refine AA ?_|refine AC ?_|refine AD ?_|refine AE ?_|refine AF rfl rfl ?_|refine AG rfl rfl ?_|refine AH ?_|refine AI ?_|refine AJ ?_|refine AK ?_|refine AL ?_|refine AM ?_|refine AN ?_|refine AO ?_|refine AP ?_|refine AQ rfl ?_|refine AR ?_|refine AS ?_|refine AT rfl ?_|refine AU rfl ?_
          refine wr_heap (h' := h3.put h1.n (.rw [.int .i64 (-(A : Int)), .int .i64 B])) rfl ?_
          have k4 : Keep (OneB h1.n) h3 (h3.put h1.n (.rw [.int .i64 (-(A : Int)), .int .i64 B])) := Keep.put _ _ _ rfl
          have bx4 : Bx (h3.put h1.n (.rw [.int .i64 (-(A : Int)), .int .i64 B])) h1.n [.int .i64 (-(A : Int)), .int .i64 B] := bx3.put
          have bx1 := bx1.keep k4 hne
          have K4 := (kp.and k3).own k4 (fun k q => by have q : k = h1.n := q; have := kp.n; omega)
          generalize h3.put h1.n (.rw [.int .i64 (-(A : Int)), .int .i64 B]) = h4 at *
          repeat first|(refine BG ?_;first|(refine BH ?_;first|(refine BI ?_;refine BM ?_)|(refine BJ ?_;first|refine BN ?_|refine BO ?_)|refine BV (v_bxn bx4 rfl (Nat.le_refl _)) ?_|refine BP ?_)|(refine BK ?_;first|refine BS rfl rfl ?_|refine BT rfl rfl ?_|refine BU rfl ?_)|(refine BL ?_;first|refine BW (ef_bxn bx1 rfl rfl rfl rfl (Nat.le_refl _)) ?_|refine BQ ?_)|(refine BR ?_;try simp only [setS]))|refine AA ?_|refine AC ?_|refine AD ?_|refine AE ?_|refine AF rfl rfl ?_|refine AG rfl rfl ?_|refine AH ?_|refine AI ?_|refine AJ ?_|refine AK ?_|refine AL ?_|refine AM ?_|refine AN ?_|refine AO ?_|refine AP ?_|refine AQ rfl ?_|refine AR ?_|refine AS ?_|refine AT rfl ?_|refine AU rfl ?_
          exact fin_q (q := (-(A : Int), (B : Int))) (er := 0) bx1.put rfl rfl ⟨K4.own (Keep.put _ _ _ (S := OneB h.n) rfl) (fun k q => Nat.le_of_eq q.symm), rfl⟩
end
end Am
end Go.Proofs.Ytkgplkddpigagaa
