/- The document's numbers (marigraphref1): they are the program's. -/
import Derived.Test.YtkgplkddpigagaaQaK
set_option linter.unusedVariables false
set_option linter.unusedSimpArgs false
namespace Go.Proofs.Ytkgplkddpigagaa
namespace Am
open Go.RowKit
set_option maxRecDepth 100000
def b_ref1gcd : BF := ⟨12, [0, 1, 4, 6], (.seq (.reg [.mk none (.slot 2) (.mov (.mv (.const (.int .i64 0))))]) (.seq (.block 0 (.loop (.seq (.seq (.reg [.mk none (.env 5) (.mov (.mv (.slot 1))), .mk none (.slot 3) (.mov (.bin .neq .no (.env 5) (.const (.int .i64 0))))]) (.cond (.slot 3) .skip (.exit 0))) (.block 1 (.dreg [(.mk none (.env 7) (.mov (.mv (.slot 1))), []), (.mk none (.env 8) (.mov (.mv (.slot 0))), []), (.mk none (.env 9) (.mov (.mv (.slot 1))), []), (.mk none (.env 10) (.mov (.bin .rem .no (.env 8) (.env 9))), []), (.mk none (.slot 0) (.mov (.mv (.env 7))), []), (.mk none (.slot 1) (.mov (.mv (.env 10))), [])]))))) (.seq (.reg [.mk none (.env 11) (.mov (.mv (.slot 0))), .mk none (.slot 2) (.mov (.mv (.env 11)))]) .ret))), [.slot (.slot 2)]⟩
def b_ref1abs : BF := ⟨8, [0, 2, 4], (.seq (.reg [.mk none (.slot 1) (.mov (.mv (.const (.int .i64 0))))]) (.seq (.seq (.reg [.mk none (.env 3) (.mov (.mv (.slot 0))), .mk none (.slot 2) (.mov (.bin .lss .no (.env 3) (.const (.int .i64 0))))]) (.cond (.slot 2) (.seq (.reg [.mk none (.env 5) (.mov (.mv (.slot 0))), .mk none (.env 6) (.mov (.neg (.env 5))), .mk none (.slot 1) (.mov (.mv (.env 6)))]) .ret) .skip)) (.seq (.reg [.mk none (.env 7) (.mov (.mv (.slot 0))), .mk none (.slot 1) (.mov (.mv (.env 7)))]) .ret))), [.slot (.slot 1)]⟩
def b_ref1Right : BF := ⟨28, [0, 1, 2, 20], (.seq (.reg [.mk none (.slot 1) (.eff (.box (.slot 0))), .mk none (.slot 2) (.mov (.mv (.const (.bool false))))]) (.seq (.seq (.reg [.mk none (.env 3) (.mov (.faddr 1 (.slot 1))), .mk none (.env 4) (.mov (.ld1 (.env 3))), .mk none (.env 5) (.mov (.bin .lss .no (.env 4) (.const (.int .i64 1)))), .mk none (.env 6) (.mov (.mv (.env 5))), .mk (some ((.env 6), false)) (.env 7) (.mov (.faddr 1 (.slot 1))), .mk (some ((.env 6), false)) (.env 8) (.mov (.ld1 (.env 7))), .mk (some ((.env 6), false)) (.env 9) (.mov (.bin .gtr .no (.env 8) (.const (.int .i64 2147483647)))), .mk none (.env 10) (.mov (.pick (.env 6) (.const (.bool true)) (.env 9))), .mk none (.env 11) (.mov (.mv (.env 10))), .mk (some ((.env 11), false)) (.env 12) (.mov (.faddr 0 (.slot 1))), .mk (some ((.env 11), false)) (.env 13) (.mov (.ld1 (.env 12))), .mk (some ((.env 11), false)) (.env 14) (.mov (.bin .lss .no (.env 13) (.const (.int .i64 (-2147483647))))), .mk none (.env 15) (.mov (.pick (.env 11) (.const (.bool true)) (.env 14))), .mk none (.env 16) (.mov (.mv (.env 15))), .mk (some ((.env 16), false)) (.env 17) (.mov (.faddr 0 (.slot 1))), .mk (some ((.env 16), false)) (.env 18) (.mov (.ld1 (.env 17))), .mk (some ((.env 16), false)) (.env 19) (.mov (.bin .gtr .no (.env 18) (.const (.int .i64 2147483647)))), .mk none (.slot 3) (.mov (.pick (.env 16) (.const (.bool true)) (.env 19)))]) (.cond (.slot 3) (.seq (.reg [.mk none (.slot 2) (.mov (.mv (.const (.bool false))))]) .ret) .skip)) (.seq (.dreg [(.mk none (.env 21) (.mov (.faddr 0 (.slot 1))), []), (.mk none (.env 22) (.mov (.ld1 (.env 21))), []), (.mk none (.env 24) (.mov (.faddr 1 (.slot 1))), []), (.mk none (.env 25) (.mov (.ld1 (.env 24))), []), (.mk none (.env 23) (.call 46 [(.env 22)]), [2, 3]), (.mk none (.env 26) (.call 45 [(.env 23), (.env 25)]), []), (.mk none (.env 27) (.mov (.bin .eql .no (.env 26) (.const (.int .i64 1)))), []), (.mk none (.slot 2) (.mov (.mv (.env 27))), [])]) .ret))), [.slot (.slot 2)]⟩
def b_ref1parts : BF := ⟨11, [0, 2, 3, 5], (.seq (.reg [.mk none (.slot 1) (.mov (.mv (.const (.bool false)))), .mk none (.slot 2) (.mov (.mv (.const (.int .u64 0))))]) (.seq (.seq (.reg [.mk none (.env 4) (.mov (.mv (.slot 0))), .mk none (.slot 3) (.mov (.bin .lss .no (.env 4) (.const (.int .i64 0))))]) (.cond (.slot 3) (.seq (.reg [.mk none (.env 6) (.mov (.mv (.slot 0))), .mk none (.env 7) (.mov (.conv .u64 (.env 6))), .mk none (.env 8) (.mov (.neg (.env 7))), .mk none (.slot 1) (.mov (.mv (.const (.bool true)))), .mk none (.slot 2) (.mov (.mv (.env 8)))]) .ret) .skip)) (.seq (.reg [.mk none (.env 9) (.mov (.mv (.slot 0))), .mk none (.env 10) (.mov (.conv .u64 (.env 9))), .mk none (.slot 1) (.mov (.mv (.const (.bool false)))), .mk none (.slot 2) (.mov (.mv (.env 10)))]) .ret))), [.slot (.slot 1), .slot (.slot 2)]⟩
def b_ref1New : BF := ⟨60, [0, 1, 4, 5, 6, 7, 8, 9, 10, 11, 13, 28, 44, 48], (.seq (.reg [.mk none (.slot 2) (.eff (.alloc [(.int .i64 0), (.int .i64 0)])), .mk none (.slot 3) (.mov (.mv (.const (.int .i64 0))))]) (.seq (.seq (.reg [.mk none (.env 12) (.mov (.mv (.slot 1))), .mk none (.slot 10) (.mov (.bin .eql .no (.env 12) (.const (.int .i64 0))))]) (.cond (.slot 10) (.seq (.reg [.mk none (.env 14) (.mov (.bld [(.int .i64 0), (.int .i64 0)] [])), .mk none .none (.eff (.store 2 (.slot 2) (.env 14))), .mk none (.slot 3) (.mov (.mv (.const (.int .i64 1))))]) .ret) .skip)) (.seq (.reg [.mk none (.env 16) (.mov (.mv (.slot 0))), .mk none (.env 17) (.call 47 [(.env 16)]), .mk none (.env 15) (.mov (.mv (.env 17))), .mk none (.env 18) (.mov (.ext 0 (.env 15))), .mk none (.env 19) (.mov (.ext 1 (.env 15))), .mk none (.slot 4) (.mov (.mv (.env 18))), .mk none (.slot 5) (.mov (.mv (.env 19)))]) (.seq (.reg [.mk none (.env 21) (.mov (.mv (.slot 1))), .mk none (.env 22) (.call 47 [(.env 21)]), .mk none (.env 20) (.mov (.mv (.env 22))), .mk none (.env 23) (.mov (.ext 0 (.env 20))), .mk none (.env 24) (.mov (.ext 1 (.env 20))), .mk none (.slot 6) (.mov (.mv (.env 23))), .mk none (.slot 7) (.mov (.mv (.env 24)))]) (.seq (.reg [.mk none (.env 25) (.mov (.mv (.slot 5))), .mk none (.env 26) (.mov (.mv (.slot 7))), .mk none (.slot 8) (.mov (.mv (.env 25))), .mk none (.slot 9) (.mov (.mv (.env 26)))]) (.seq (.block 0 (.loop (.seq (.seq (.reg [.mk none (.env 27) (.mov (.mv (.slot 9))), .mk none (.slot 11) (.mov (.bin .neq .no (.env 27) (.const (.int .u64 0))))]) (.cond (.slot 11) .skip (.exit 0))) (.block 1 (.dreg [(.mk none (.env 29) (.mov (.mv (.slot 9))), []), (.mk none (.env 30) (.mov (.mv (.slot 8))), []), (.mk none (.env 31) (.mov (.mv (.slot 9))), []), (.mk none (.env 32) (.mov (.bin .rem .no (.env 30) (.env 31))), []), (.mk none (.slot 8) (.mov (.mv (.env 29))), []), (.mk none (.slot 9) (.mov (.mv (.env 32))), [])]))))) (.seq (.dreg [(.mk none (.env 33) (.mov (.mv (.slot 5))), []), (.mk none (.env 34) (.mov (.mv (.slot 8))), []), (.mk none (.env 35) (.mov (.bin .quo .no (.env 33) (.env 34))), []), (.mk none (.env 36) (.mov (.mv (.slot 7))), []), (.mk none (.env 37) (.mov (.mv (.slot 8))), []), (.mk none (.env 38) (.mov (.bin .quo .no (.env 36) (.env 37))), []), (.mk none (.slot 5) (.mov (.mv (.env 35))), []), (.mk none (.slot 7) (.mov (.mv (.env 38))), [])]) (.seq (.seq (.reg [.mk none (.env 39) (.mov (.mv (.slot 5))), .mk none (.env 40) (.mov (.bin .gtr .no (.env 39) (.const (.int .u64 2147483647)))), .mk none (.env 41) (.mov (.mv (.env 40))), .mk (some ((.env 41), false)) (.env 42) (.mov (.mv (.slot 7))), .mk (some ((.env 41), false)) (.env 43) (.mov (.bin .gtr .no (.env 42) (.const (.int .u64 2147483647)))), .mk none (.slot 12) (.mov (.pick (.env 41) (.const (.bool true)) (.env 43)))]) (.cond (.slot 12) (.seq (.reg [.mk none (.env 45) (.mov (.bld [(.int .i64 0), (.int .i64 0)] [])), .mk none .none (.eff (.store 2 (.slot 2) (.env 45))), .mk none (.slot 3) (.mov (.mv (.const (.int .i64 23))))]) .ret) .skip)) (.seq (.seq (.reg [.mk none (.env 46) (.mov (.mv (.slot 4))), .mk none (.env 47) (.mov (.mv (.slot 6))), .mk none (.slot 13) (.mov (.bin .neq .bool (.env 46) (.env 47)))]) (.cond (.slot 13) (.seq (.reg [.mk none (.env 49) (.mov (.mv (.slot 5))), .mk none (.env 50) (.mov (.conv .i64 (.env 49))), .mk none (.env 51) (.mov (.neg (.env 50))), .mk none (.env 52) (.mov (.mv (.slot 7))), .mk none (.env 53) (.mov (.conv .i64 (.env 52))), .mk none (.env 54) (.mov (.bld [(.int .i64 0), (.int .i64 0)] [(0, 1, (.env 51)), (1, 1, (.env 53))])), .mk none .none (.eff (.store 2 (.slot 2) (.env 54))), .mk none (.slot 3) (.mov (.mv (.const (.int .i64 0))))]) .ret) .skip)) (.seq (.reg [.mk none (.env 55) (.mov (.mv (.slot 5))), .mk none (.env 56) (.mov (.conv .i64 (.env 55))), .mk none (.env 57) (.mov (.mv (.slot 7))), .mk none (.env 58) (.mov (.conv .i64 (.env 57))), .mk none (.env 59) (.mov (.bld [(.int .i64 0), (.int .i64 0)] [(0, 1, (.env 56)), (1, 1, (.env 58))])), .mk none .none (.eff (.store 2 (.slot 2) (.env 59))), .mk none (.slot 3) (.mov (.mv (.const (.int .i64 0))))]) .ret)))))))))), [.celln 2 (.slot 2), .slot (.slot 3)]⟩
def b_ref1Op : BF := ⟨97, [0, 1, 2, 4, 5, 6, 7, 24, 26, 27, 48, 69], (.seq (.reg [.mk none (.slot 3) (.eff (.box (.slot 1))), .mk none (.slot 4) (.eff (.box (.slot 2))), .mk none (.slot 5) (.eff (.alloc [(.int .i64 0), (.int .i64 0)])), .mk none (.slot 6) (.mov (.mv (.const (.int .i64 0))))]) (.seq (.seq (.reg [.mk none (.env 8) (.mov (.ldn 2 (.slot 3))), .mk none (.env 9) (.call 28 [(.env 8)]), .mk none (.env 10) (.mov (.notb (.env 9))), .mk none (.env 11) (.mov (.mv (.env 10))), .mk (some ((.env 11), false)) (.env 12) (.mov (.ldn 2 (.slot 4))), .mk (some ((.env 11), false)) (.env 13) (.call 28 [(.env 12)]), .mk (some ((.env 11), false)) (.env 14) (.mov (.notb (.env 13))), .mk none (.env 15) (.mov (.pick (.env 11) (.const (.bool true)) (.env 14))), .mk none (.env 16) (.mov (.mv (.env 15))), .mk (some ((.env 16), false)) (.env 17) (.mov (.mv (.slot 0))), .mk (some ((.env 16), false)) (.env 18) (.mov (.bin .eql .no (.env 17) (.const (.int .u8 47)))), .mk (some ((.env 16), false)) (.env 19) (.mov (.mv (.env 18))), .mk (some ((.env 19), true)) (.env 20) (.mov (.faddr 0 (.slot 4))), .mk (some ((.env 19), true)) (.env 21) (.mov (.ld1 (.env 20))), .mk (some ((.env 19), true)) (.env 22) (.mov (.bin .eql .no (.env 21) (.const (.int .i64 0)))), .mk (some ((.env 16), false)) (.env 23) (.mov (.pick (.env 19) (.env 22) (.const (.bool false)))), .mk none (.slot 7) (.mov (.pick (.env 16) (.const (.bool true)) (.env 23)))]) (.cond (.slot 7) (.seq (.reg [.mk none (.env 25) (.mov (.bld [(.int .i64 0), (.int .i64 0)] [])), .mk none .none (.eff (.store 2 (.slot 5) (.env 25))), .mk none (.slot 6) (.mov (.mv (.const (.int .i64 1))))]) .ret) .skip)) (.seq (.seq (.reg [.mk none (.slot 8) (.mov (.mv (.slot 0)))]) (.block 0 (.seq (.reg [.mk none (.env 28) (.mov (.bin .eql .no (.slot 8) (.const (.int .u8 43)))), .mk none (.slot 9) (.mov (.mv (.env 28)))]) (.cond (.slot 9) (.seq (.reg [.mk none (.env 29) (.mov (.faddr 0 (.slot 3))), .mk none (.env 30) (.mov (.ld1 (.env 29))), .mk none (.env 31) (.mov (.faddr 1 (.slot 4))), .mk none (.env 32) (.mov (.ld1 (.env 31))), .mk none (.env 33) (.mov (.bin .mul .no (.env 30) (.env 32))), .mk none (.env 34) (.mov (.faddr 0 (.slot 4))), .mk none (.env 35) (.mov (.ld1 (.env 34))), .mk none (.env 36) (.mov (.faddr 1 (.slot 3))), .mk none (.env 37) (.mov (.ld1 (.env 36))), .mk none (.env 38) (.mov (.bin .mul .no (.env 35) (.env 37))), .mk none (.env 39) (.mov (.bin .add .no (.env 33) (.env 38))), .mk none (.env 40) (.mov (.faddr 1 (.slot 3))), .mk none (.env 41) (.mov (.ld1 (.env 40))), .mk none (.env 42) (.mov (.faddr 1 (.slot 4))), .mk none (.env 43) (.mov (.ld1 (.env 42))), .mk none (.env 44) (.mov (.bin .mul .no (.env 41) (.env 43))), .mk none (.env 45) (.call 29 [(.env 39), (.env 44)]), .mk none (.env 46) (.mov (.ext 0 (.env 45))), .mk none (.env 47) (.mov (.ext 1 (.env 45))), .mk none .none (.eff (.store 2 (.slot 5) (.env 46))), .mk none (.slot 6) (.mov (.mv (.env 47)))]) .ret) (.seq (.reg [.mk none (.env 49) (.mov (.bin .eql .no (.slot 8) (.const (.int .u8 45)))), .mk none (.slot 10) (.mov (.mv (.env 49)))]) (.cond (.slot 10) (.seq (.reg [.mk none (.env 50) (.mov (.faddr 0 (.slot 3))), .mk none (.env 51) (.mov (.ld1 (.env 50))), .mk none (.env 52) (.mov (.faddr 1 (.slot 4))), .mk none (.env 53) (.mov (.ld1 (.env 52))), .mk none (.env 54) (.mov (.bin .mul .no (.env 51) (.env 53))), .mk none (.env 55) (.mov (.faddr 0 (.slot 4))), .mk none (.env 56) (.mov (.ld1 (.env 55))), .mk none (.env 57) (.mov (.faddr 1 (.slot 3))), .mk none (.env 58) (.mov (.ld1 (.env 57))), .mk none (.env 59) (.mov (.bin .mul .no (.env 56) (.env 58))), .mk none (.env 60) (.mov (.bin .sub .no (.env 54) (.env 59))), .mk none (.env 61) (.mov (.faddr 1 (.slot 3))), .mk none (.env 62) (.mov (.ld1 (.env 61))), .mk none (.env 63) (.mov (.faddr 1 (.slot 4))), .mk none (.env 64) (.mov (.ld1 (.env 63))), .mk none (.env 65) (.mov (.bin .mul .no (.env 62) (.env 64))), .mk none (.env 66) (.call 29 [(.env 60), (.env 65)]), .mk none (.env 67) (.mov (.ext 0 (.env 66))), .mk none (.env 68) (.mov (.ext 1 (.env 66))), .mk none .none (.eff (.store 2 (.slot 5) (.env 67))), .mk none (.slot 6) (.mov (.mv (.env 68)))]) .ret) (.seq (.reg [.mk none (.env 70) (.mov (.bin .eql .no (.slot 8) (.const (.int .u8 42)))), .mk none (.slot 11) (.mov (.mv (.env 70)))]) (.cond (.slot 11) (.seq (.reg [.mk none (.env 71) (.mov (.faddr 0 (.slot 3))), .mk none (.env 72) (.mov (.ld1 (.env 71))), .mk none (.env 73) (.mov (.faddr 0 (.slot 4))), .mk none (.env 74) (.mov (.ld1 (.env 73))), .mk none (.env 75) (.mov (.bin .mul .no (.env 72) (.env 74))), .mk none (.env 76) (.mov (.faddr 1 (.slot 3))), .mk none (.env 77) (.mov (.ld1 (.env 76))), .mk none (.env 78) (.mov (.faddr 1 (.slot 4))), .mk none (.env 79) (.mov (.ld1 (.env 78))), .mk none (.env 80) (.mov (.bin .mul .no (.env 77) (.env 79))), .mk none (.env 81) (.call 29 [(.env 75), (.env 80)]), .mk none (.env 82) (.mov (.ext 0 (.env 81))), .mk none (.env 83) (.mov (.ext 1 (.env 81))), .mk none .none (.eff (.store 2 (.slot 5) (.env 82))), .mk none (.slot 6) (.mov (.mv (.env 83)))]) .ret) .skip)))))))) (.seq (.reg [.mk none (.env 84) (.mov (.faddr 0 (.slot 3))), .mk none (.env 85) (.mov (.ld1 (.env 84))), .mk none (.env 86) (.mov (.faddr 1 (.slot 4))), .mk none (.env 87) (.mov (.ld1 (.env 86))), .mk none (.env 88) (.mov (.bin .mul .no (.env 85) (.env 87))), .mk none (.env 89) (.mov (.faddr 1 (.slot 3))), .mk none (.env 90) (.mov (.ld1 (.env 89))), .mk none (.env 91) (.mov (.faddr 0 (.slot 4))), .mk none (.env 92) (.mov (.ld1 (.env 91))), .mk none (.env 93) (.mov (.bin .mul .no (.env 90) (.env 92))), .mk none (.env 94) (.call 29 [(.env 88), (.env 93)]), .mk none (.env 95) (.mov (.ext 0 (.env 94))), .mk none (.env 96) (.mov (.ext 1 (.env 94))), .mk none .none (.eff (.store 2 (.slot 5) (.env 95))), .mk none (.slot 6) (.mov (.mv (.env 96)))]) .ret)))), [.celln 2 (.slot 5), .slot (.slot 6)]⟩
section
variable {X : Type} {E : Nat → Option (Ent X)}
structure QrT (E : Nat → Option (Ent X)) : Prop where
  gcd : E 45 = some (.bc b_ref1gcd)
  abs : E 46 = some (.bc b_ref1abs)
  right : E 28 = some (.bc b_ref1Right)
  parts : E 47 = some (.bc b_ref1parts)
  new : E 29 = some (.bc b_ref1New)
  op : E 14 = some (.bc b_ref1Op)
theorem rgcd_ok (hE : ∀ f e, E f = some e → e.plain) (T : QrT E) {h : Hp X} (a b : Nat) : WF (lim E) 45 [.int .i64 a, .int .i64 b] h fun x h' => h' = h ∧ x = .int .i64 (Nat.gcd a b) := by
  refine wf_bc hE T.gcd rfl ?_
  simp only [b_ref1gcd, List.map, getS]
  repeat first|(refine BG ?_;first|(refine BH ?_;first|(refine BI ?_;refine BM ?_)|(refine BJ ?_;first|refine BN ?_|refine BO ?_)|refine BP ?_)|(refine BK ?_;first|refine BS rfl rfl ?_|refine BT rfl rfl ?_|refine BU rfl ?_)|(refine BL ?_;first|refine BQ ?_)|(refine BR ?_;try simp only [setS]))|refine AA ?_|refine AC ?_|refine AD ?_|refine AE ?_|refine AF rfl rfl ?_|refine AG rfl rfl ?_|refine AH ?_|refine AI ?_|refine AJ ?_|refine AK ?_|refine AL ?_|refine AM ?_|refine AN ?_|refine AO ?_|refine AP ?_|refine AQ rfl ?_|refine AR ?_|refine AS ?_|refine AT rfl ?_|refine AU rfl ?_
  refine wb_loop (fun n t hh => ∃ (c d : Nat) (s3 : AV), n = d ∧ hh = h ∧ Nat.gcd c d = Nat.gcd a b ∧ t = [.int .i64 c, .int .i64 d, .int .i64 0, s3]) ?_ b _ _ ⟨a, b, _, rfl, rfl, rfl, rfl⟩
  rintro n t hh ⟨c, d, s3, hm, eh, hg, rfl⟩
  have eh := eh.symm
  subst eh
  by_cases hd : 0 < d
  · have hne : ((d : Nat) : Int) ≠ 0 := by omega
    repeat first|(refine BG ?_;first|(refine BH ?_;first|(refine BI ?_;refine BM ?_)|(refine BJ ?_;first|refine BN ?_|refine BO ?_)|refine BP ?_)|(refine BK ?_;first|refine BS rfl rfl ?_|refine BT rfl rfl ?_|refine BU rfl ?_)|(refine BL ?_;first|refine BQ ?_)|(refine BR ?_;try simp only [setS]))|refine AA ?_|refine AC ?_|refine AD ?_|refine AE ?_|refine AF rfl rfl ?_|refine AG rfl rfl ?_|refine AH ?_|refine AI ?_|refine AJ ?_|refine AK ?_|refine AL ?_|refine AM ?_|refine AN ?_|refine AO ?_|refine AP ?_|refine AQ rfl ?_|refine AR ?_|refine AS ?_|refine AT rfl ?_|refine AU rfl ?_
    repeat first|(refine BG ?_;first|(refine BH ?_;first|(refine BI ?_;refine BM ?_)|(refine BJ ?_;first|refine BN ?_|refine BO ?_)|refine BV (v_remn rfl rfl hd) ?_|refine BP ?_)|(refine BK ?_;first|refine BS rfl rfl ?_|refine BT rfl rfl ?_|refine BU rfl ?_)|(refine BL ?_;first|refine BQ ?_)|(refine BR ?_;try simp only [setS]))|(refine BX ?_;first|refine BY rfl ?_|(refine BZ ?_;refine CA ?_)|refine CB (v_remn rfl rfl hd) ?_|refine CC ?_|(refine CD ?_;try simp only [setS]))|refine AA ?_|refine AC ?_|refine AD ?_|refine AE ?_|refine AF rfl rfl ?_|refine AG rfl rfl ?_|refine AH ?_|refine AI ?_|refine AJ ?_|refine AK ?_|refine AL ?_|refine AM ?_|refine AN ?_|refine AO ?_|refine AP ?_|refine AQ rfl ?_|refine AR ?_|refine AS ?_|refine AT rfl ?_|refine AU rfl ?_
    have hlt := Nat.mod_lt c hd
    refine round_norm (c % d) (by omega) ⟨d, c % d, _, rfl, rfl, ?_, rfl⟩
    rw [← hg, Nat.gcd_comm c d, Nat.gcd_rec d c, Nat.gcd_comm]
  · have hd0 : d = 0 := by omega
    subst hd0
    rw [Nat.gcd_zero_right] at hg
    repeat first|(refine BG ?_;first|(refine BH ?_;first|(refine BI ?_;refine BM ?_)|(refine BJ ?_;first|refine BN ?_|refine BO ?_)|refine BP ?_)|(refine BK ?_;first|refine BS rfl rfl ?_|refine BT rfl rfl ?_|refine BU rfl ?_)|(refine BL ?_;first|refine BQ ?_)|(refine BR ?_;try simp only [setS]))|refine AA ?_|refine AC ?_|refine AD ?_|refine AE ?_|refine AF rfl rfl ?_|refine AG rfl rfl ?_|refine AH ?_|refine AI ?_|refine AJ ?_|refine AK ?_|refine AL ?_|refine AM ?_|refine AN ?_|refine AO ?_|refine AP ?_|refine AQ rfl ?_|refine AR ?_|refine AS ?_|refine AT rfl ?_|refine AU rfl ?_
    exact ⟨rfl, by rw [← hg]; rfl⟩
theorem rabs_ok (hE : ∀ f e, E f = some e → e.plain) (T : QrT E) {h : Hp X} {n : Int} (hn : -9223372036854775807 ≤ n ∧ n ≤ 9223372036854775807) : WF (lim E) 46 [.int .i64 n] h fun x h' => h' = h ∧ x = .int .i64 (n.natAbs : Nat) := by
  refine wf_bc hE T.abs rfl ?_
  simp only [b_ref1abs, List.map, getS]
  by_cases h0 : n < 0
  · repeat first|(refine BG ?_;first|(refine BH ?_;first|(refine BI ?_;refine BM ?_)|(refine BJ ?_;first|refine BN ?_|refine BO ?_)|refine BV (v_neg rfl (by omega)) ?_|refine BP ?_)|(refine BK ?_;first|refine BS rfl rfl ?_|refine BT rfl rfl ?_|refine BU rfl ?_)|(refine BL ?_;first|refine BQ ?_)|(refine BR ?_;try simp only [setS]))|refine AA ?_|refine AC ?_|refine AD ?_|refine AE ?_|refine AF rfl rfl ?_|refine AG rfl rfl ?_|refine AH ?_|refine AI ?_|refine AJ ?_|refine AK ?_|refine AL ?_|refine AM ?_|refine AN ?_|refine AO ?_|refine AP ?_|refine AQ rfl ?_|refine AR ?_|refine AS ?_|refine AT rfl ?_|refine AU rfl ?_
    exact ⟨rfl, congrArg (AV.int .i64) (by omega)⟩
  · repeat first|(refine BG ?_;first|(refine BH ?_;first|(refine BI ?_;refine BM ?_)|(refine BJ ?_;first|refine BN ?_|refine BO ?_)|refine BP ?_)|(refine BK ?_;first|refine BS rfl rfl ?_|refine BT rfl rfl ?_|refine BU rfl ?_)|(refine BL ?_;first|refine BQ ?_)|(refine BR ?_;try simp only [setS]))|refine AA ?_|refine AC ?_|refine AD ?_|refine AE ?_|refine AF rfl rfl ?_|refine AG rfl rfl ?_|refine AH ?_|refine AI ?_|refine AJ ?_|refine AK ?_|refine AL ?_|refine AM ?_|refine AN ?_|refine AO ?_|refine AP ?_|refine AQ rfl ?_|refine AR ?_|refine AS ?_|refine AT rfl ?_|refine AU rfl ?_
    exact ⟨rfl, congrArg (AV.int .i64) (by omega)⟩
theorem rparts_ok (hE : ∀ f e, E f = some e → e.plain) (T : QrT E) {h : Hp X} {n : Int} (hn : I64 n) : WF (lim E) 47 [.int .i64 n] h fun x h' => h' = h ∧ x = .tup [.bool (decide (n < 0)), .int .u64 (n.natAbs : Nat)] := by
  have n1 := hn.1
  have n2 := hn.2
  refine wf_bc hE T.parts rfl ?_
  simp only [b_ref1parts, List.map, getS]
  by_cases h0 : n < 0
  · repeat first|(refine BG ?_;first|(refine BH ?_;first|(refine BI ?_;refine BM ?_)|(refine BJ ?_;first|refine BN ?_|refine BO ?_)|refine BV (v_convu_neg rfl (by omega)) ?_|refine BV (v_negu rfl (by omega)) ?_|refine BP ?_)|(refine BK ?_;first|refine BS rfl rfl ?_|refine BT rfl rfl ?_|refine BU rfl ?_)|(refine BL ?_;first|refine BQ ?_)|(refine BR ?_;try simp only [setS]))|refine AA ?_|refine AC ?_|refine AD ?_|refine AE ?_|refine AF rfl rfl ?_|refine AG rfl rfl ?_|refine AH ?_|refine AI ?_|refine AJ ?_|refine AK ?_|refine AL ?_|refine AM ?_|refine AN ?_|refine AO ?_|refine AP ?_|refine AQ rfl ?_|refine AR ?_|refine AS ?_|refine AT rfl ?_|refine AU rfl ?_
    rw [decide_eq_true h0]
    exact ⟨rfl, rfl⟩
  · repeat first|(refine BG ?_;first|(refine BH ?_;first|(refine BI ?_;refine BM ?_)|(refine BJ ?_;first|refine BN ?_|refine BO ?_)|refine BV (v_convu rfl (by omega)) ?_|refine BP ?_)|(refine BK ?_;first|refine BS rfl rfl ?_|refine BT rfl rfl ?_|refine BU rfl ?_)|(refine BL ?_;first|refine BQ ?_)|(refine BR ?_;try simp only [setS]))|refine AA ?_|refine AC ?_|refine AD ?_|refine AE ?_|refine AF rfl rfl ?_|refine AG rfl rfl ?_|refine AH ?_|refine AI ?_|refine AJ ?_|refine AK ?_|refine AL ?_|refine AM ?_|refine AN ?_|refine AO ?_|refine AP ?_|refine AQ rfl ?_|refine AR ?_|refine AS ?_|refine AT rfl ?_|refine AU rfl ?_
    rw [decide_eq_false h0]
    have e : n = ((n.natAbs : Nat) : Int) := by omega
    refine ⟨rfl, ?_⟩
    show AV.tup [.bool false, .int .u64 n] = _
    rw [← e]
set_option maxHeartbeats 1000000 in
theorem rright_ok (hE : ∀ f e, E f = some e → e.plain) (T : QrT E) {h : Hp X} {q : QQ} (hq : I64Q q) : WF (lim E) 28 [qv q] h fun x h' => Keep NoB h h' ∧ x = .bool (rightF q) := by
  refine wf_bc hE T.right rfl ?_
  simp only [b_ref1Right, List.map, getS]
  have bx : Bx (h.push (.rw [.int .i64 q.1, .int .i64 q.2])) h.n [.int .i64 q.1, .int .i64 q.2] := bx_push
  have kp : Keep NoB h (h.push (.rw [.int .i64 q.1, .int .i64 q.2])) := Keep.push _ _ _
  have no : ∀ {P : Prop}, ¬ P → (RightQ q → P) → rightF q = false := fun hp hq => Bool.eq_false_iff.2 fun r => hp (hq (right_iff.1 r))
  by_cases c1 : q.2 < 1
  · rw [no (by omega : ¬ 0 < q.2) (fun r => r.pos)]
    repeat first|(refine BG ?_;first|(refine BH ?_;first|(refine BI ?_;refine BM ?_)|(refine BJ ?_;first|refine BN ?_|refine BO ?_)|refine BV (v_bx bx rfl rfl) ?_|refine BP ?_)|(refine BK ?_;first|refine BS rfl rfl ?_|refine BT rfl rfl ?_|refine BU rfl ?_)|(refine BL ?_;first|refine BW (ef_box rfl int_all2) ?_|refine BQ ?_)|(refine BR ?_;try simp only [setS]))|refine AA ?_|refine AC ?_|refine AD ?_|refine AE ?_|refine AF rfl rfl ?_|refine AG rfl rfl ?_|refine AH ?_|refine AI ?_|refine AJ ?_|refine AK ?_|refine AL ?_|refine AM ?_|refine AN ?_|refine AO ?_|refine AP ?_|refine AQ rfl ?_|refine AR ?_|refine AS ?_|refine AT rfl ?_|refine AU rfl ?_
    exact ⟨kp, rfl⟩
  by_cases c2 : 2147483647 < q.2
  · rw [no (by omega : ¬ q.2 ≤ 2147483647) (fun r => r.top)]
    repeat first|(refine BG ?_;first|(refine BH ?_;first|(refine BI ?_;refine BM ?_)|(refine BJ ?_;first|refine BN ?_|refine BO ?_)|refine BV (v_bx bx rfl rfl) ?_|refine BP ?_)|(refine BK ?_;first|refine BS rfl rfl ?_|refine BT rfl rfl ?_|refine BU rfl ?_)|(refine BL ?_;first|refine BW (ef_box rfl int_all2) ?_|refine BQ ?_)|(refine BR ?_;try simp only [setS]))|refine AA ?_|refine AC ?_|refine AD ?_|refine AE ?_|refine AF rfl rfl ?_|refine AG rfl rfl ?_|refine AH ?_|refine AI ?_|refine AJ ?_|refine AK ?_|refine AL ?_|refine AM ?_|refine AN ?_|refine AO ?_|refine AP ?_|refine AQ rfl ?_|refine AR ?_|refine AS ?_|refine AT rfl ?_|refine AU rfl ?_
    exact ⟨kp, rfl⟩
  by_cases c3 : q.1 < -2147483647
  · rw [no (by omega : ¬ -2147483647 ≤ q.1) (fun r => r.n0)]
    repeat first|(refine BG ?_;first|(refine BH ?_;first|(refine BI ?_;refine BM ?_)|(refine BJ ?_;first|refine BN ?_|refine BO ?_)|refine BV (v_bx bx rfl rfl) ?_|refine BP ?_)|(refine BK ?_;first|refine BS rfl rfl ?_|refine BT rfl rfl ?_|refine BU rfl ?_)|(refine BL ?_;first|refine BW (ef_box rfl int_all2) ?_|refine BQ ?_)|(refine BR ?_;try simp only [setS]))|refine AA ?_|refine AC ?_|refine AD ?_|refine AE ?_|refine AF rfl rfl ?_|refine AG rfl rfl ?_|refine AH ?_|refine AI ?_|refine AJ ?_|refine AK ?_|refine AL ?_|refine AM ?_|refine AN ?_|refine AO ?_|refine AP ?_|refine AQ rfl ?_|refine AR ?_|refine AS ?_|refine AT rfl ?_|refine AU rfl ?_
    exact ⟨kp, rfl⟩
  by_cases c4 : 2147483647 < q.1
  · rw [no (by omega : ¬ q.1 ≤ 2147483647) (fun r => r.n1)]
    repeat first|(refine BG ?_;first|(refine BH ?_;first|(refine BI ?_;refine BM ?_)|(refine BJ ?_;first|refine BN ?_|refine BO ?_)|refine BV (v_bx bx rfl rfl) ?_|refine BP ?_)|(refine BK ?_;first|refine BS rfl rfl ?_|refine BT rfl rfl ?_|refine BU rfl ?_)|(refine BL ?_;first|refine BW (ef_box rfl int_all2) ?_|refine BQ ?_)|(refine BR ?_;try simp only [setS]))|refine AA ?_|refine AC ?_|refine AD ?_|refine AE ?_|refine AF rfl rfl ?_|refine AG rfl rfl ?_|refine AH ?_|refine AI ?_|refine AJ ?_|refine AK ?_|refine AL ?_|refine AM ?_|refine AN ?_|refine AO ?_|refine AP ?_|refine AQ rfl ?_|refine AR ?_|refine AS ?_|refine AT rfl ?_|refine AU rfl ?_
    exact ⟨kp, rfl⟩
  repeat first|(refine BG ?_;first|(refine BH ?_;first|(refine BI ?_;refine BM ?_)|(refine BJ ?_;first|refine BN ?_|refine BO ?_)|refine BV (v_bx bx rfl rfl) ?_|refine BP ?_)|(refine BK ?_;first|refine BS rfl rfl ?_|refine BT rfl rfl ?_|refine BU rfl ?_)|(refine BL ?_;first|refine BW (ef_box rfl int_all2) ?_|refine BQ ?_)|(refine BR ?_;try simp only [setS]))|refine AA ?_|refine AC ?_|refine AD ?_|refine AF rfl rfl ?_|refine AG rfl rfl ?_|refine AH ?_|refine AI ?_|refine AJ ?_|refine AK ?_|refine AL ?_|refine AM ?_|refine AN ?_|refine AO ?_|refine AP ?_|refine AQ rfl ?_|refine AR ?_|refine AS ?_|refine AT rfl ?_|refine AU rfl ?_
  repeat first|(refine BG ?_;first|(refine BH ?_;first|(refine BI ?_;refine BM ?_)|(refine BJ ?_;first|refine BN ?_|refine BO ?_)|refine BV (v_bx bx rfl rfl) ?_|refine BP ?_)|(refine BK ?_;first|refine BS rfl rfl ?_|refine BT rfl rfl ?_|refine BU rfl ?_)|(refine BL ?_;first|refine BQ ?_)|(refine BR ?_;try simp only [setS]))|(refine BX ?_;first|refine BY rfl ?_|(refine BZ ?_;refine CA ?_)|refine CB (v_bx bx rfl rfl) ?_|refine CC ?_|(refine CD ?_;try simp only [setS]))|refine AA ?_|refine AC ?_|refine AD ?_|refine AE ?_|refine AF rfl rfl ?_|refine AG rfl rfl ?_|refine AH ?_|refine AI ?_|refine AJ ?_|refine AK ?_|refine AL ?_|refine AM ?_|refine AN ?_|refine AO ?_|refine AP ?_|refine AQ rfl ?_|refine AR ?_|refine AS ?_|refine AT rfl ?_|refine AU rfl ?_
  refine wd_calls_e rfl ((rabs_ok hE T (n := q.1) ⟨by omega, by omega⟩).mono fun x h1 ⟨e1, e2⟩ => ?_)
  subst e2
  have e1 := e1.symm
  subst e1
  refine ⟨(by (try simp only [List.nil_append, List.cons_append]);repeat first|exact chk_nil|(apply chk_at;(focus exact rfl);first|exact pa_skp|(refine pa_mov ?_;first|exact (v_bx bx rfl rfl)|exact rfl))), ?_⟩
  have ed : q.2 = ((q.2.natAbs : Nat) : Int) := by omega
  repeat first|(refine BG ?_;first|(refine BH ?_;first|(refine BI ?_;refine BM ?_)|(refine BJ ?_;first|refine BN ?_|refine BO ?_)|refine BP ?_)|(refine BK ?_;first|refine BS rfl rfl ?_|refine BT rfl rfl ?_|refine BU rfl ?_)|(refine BL ?_;first|refine BQ ?_)|(refine BR ?_;try simp only [setS]))|(refine BX ?_;first|refine BY rfl ?_|(refine BZ ?_;refine CA ?_)|refine CC ?_|(refine CD ?_;try simp only [setS]))|refine AA ?_|refine AC ?_|refine AD ?_|refine AE ?_|refine AF rfl rfl ?_|refine AG rfl rfl ?_|refine AH ?_|refine AI ?_|refine AJ ?_|refine AK ?_|refine AL ?_|refine AM ?_|refine AN ?_|refine AO ?_|refine AP ?_|refine AQ rfl ?_|refine AR ?_|refine AS ?_|refine AT rfl ?_|refine AU rfl ?_
  refine wd_calls_e (congrArg (fun z : Int => [AV.int .i64 ((q.1.natAbs : Nat) : Int), AV.int .i64 z]) ed) ((rgcd_ok hE T q.1.natAbs q.2.natAbs).mono fun x h1 ⟨e1, e2⟩ => ?_)
  subst e2
  have e1 := e1.symm
  subst e1
  refine ⟨chk_nil, ?_⟩
  repeat first|(refine BG ?_;first|(refine BH ?_;first|(refine BI ?_;refine BM ?_)|(refine BJ ?_;first|refine BN ?_|refine BO ?_)|refine BV (v_cmp rfl rfl rfl) ?_|refine BP ?_)|(refine BK ?_;first|refine BS rfl rfl ?_|refine BT rfl rfl ?_|refine BU rfl ?_)|(refine BL ?_;first|refine BQ ?_)|(refine BR ?_;try simp only [setS]))|(refine BX ?_;first|refine BY rfl ?_|(refine BZ ?_;refine CA ?_)|refine CB (v_cmp rfl rfl rfl) ?_|refine CC ?_|(refine CD ?_;try simp only [setS]))|refine AA ?_|refine AC ?_|refine AD ?_|refine AE ?_|refine AF rfl rfl ?_|refine AG rfl rfl ?_|refine AH ?_|refine AI ?_|refine AJ ?_|refine AK ?_|refine AL ?_|refine AM ?_|refine AN ?_|refine AO ?_|refine AP ?_|refine AQ rfl ?_|refine AR ?_|refine AS ?_|refine AT rfl ?_|refine AU rfl ?_
  refine ⟨kp, ?_⟩
  show AV.bool (decide (((q.1.natAbs.gcd q.2.natAbs : Nat) : Int) = 1)) = _
  congr 1
  by_cases hg : q.1.natAbs.gcd q.2.natAbs = 1
  · rw [decide_eq_true (by omega), right_iff.2 ⟨by omega, by simp only [maxN]; omega, by simp only [maxN]; omega, by simp only [maxN]; omega, hg⟩]
  · rw [decide_eq_false (by omega), no hg (fun r => r.cop)]
set_option maxHeartbeats 1000000 in
theorem rnew_ok (hE : ∀ f e, E f = some e → e.plain) (T : QrT E) {h : Hp X} {n d : Int} (hn : I64 n) (hd : I64 d) : WF (lim E) 29 [.int .i64 n, .int .i64 d] h fun x h' => Keep NoB h h' ∧ x = qe (newF n d) := by
  have n1 := hn.1
  have n2 := hn.2
  have d1 := hd.1
  have d2 := hd.2
  refine wf_bc hE T.new rfl ?_
  simp only [b_ref1New, List.map, getS]
  have bx : Bx (h.push (.rw [.int .i64 0, .int .i64 0])) h.n [.int .i64 0, .int .i64 0] := bx_push
  have kp : Keep NoB h (h.push (.rw [.int .i64 0, .int .i64 0])) := Keep.push _ _ _
  have fin0 : ∀ {q : QQ}, Keep NoB h ((h.push (.rw [.int .i64 0, .int .i64 0])).put h.n (.rw [.int .i64 q.1, .int .i64 q.2])) := fun {q} =>
    kp.own (Keep.put _ _ _ (S := OneB h.n) rfl) (fun k q => Nat.le_of_eq q.symm)
  by_cases h0 : d = 0
  · subst h0
    have e : newF n 0 = ((0, 0), 1) := by unfold newF; rw [if_pos rfl]
    rw [e]
    repeat first|(refine BG ?_;first|(refine BH ?_;first|(refine BI ?_;refine BM ?_)|(refine BJ ?_;first|refine BN ?_|refine BO ?_)|refine BP ?_)|(refine BK ?_;first|refine BS rfl rfl ?_|refine BT rfl rfl ?_|refine BU rfl ?_)|(refine BL ?_;first|refine BW (ef_bxn bx rfl rfl rfl rfl (Nat.le_refl _)) ?_|refine BQ ?_)|(refine BR ?_;try simp only [setS]))|refine AA ?_|refine AC ?_|refine AD ?_|refine AE ?_|refine AF rfl rfl ?_|refine AG rfl rfl ?_|refine AH ?_|refine AI ?_|refine AJ ?_|refine AK ?_|refine AL ?_|refine AM ?_|refine AN ?_|refine AO ?_|refine AP ?_|refine AQ rfl ?_|refine AR ?_|refine AS ?_|refine AT rfl ?_|refine AU rfl ?_
    exact fin_q (q := (0, 0)) (er := 1) bx.put rfl rfl ⟨fin0 (q := (0, 0)), rfl⟩
  · repeat first|(refine BG ?_;first|(refine BH ?_;first|(refine BI ?_;refine BM ?_)|(refine BJ ?_;first|refine BN ?_|refine BO ?_)|refine BP ?_)|(refine BK ?_;first|refine BS rfl rfl ?_|refine BT rfl rfl ?_|refine BU rfl ?_)|(refine BL ?_;first|refine BQ ?_)|(refine BR ?_;try simp only [setS]))|refine AA ?_|refine AC ?_|refine AD ?_|refine AE ?_|refine AF rfl rfl ?_|refine AG rfl rfl ?_|refine AH ?_|refine AI ?_|refine AJ ?_|refine AK ?_|refine AL ?_|refine AM ?_|refine AN ?_|refine AO ?_|refine AP ?_|refine AQ rfl ?_|refine AR ?_|refine AS ?_|refine AT rfl ?_|refine AU rfl ?_
    refine wr_call_e rfl ((rparts_ok hE T hn).mono fun x h1 ⟨e1, e2⟩ => ?_)
    subst e2
    have e1 := e1.symm
    subst e1
    repeat first|(refine BG ?_;first|(refine BH ?_;first|(refine BI ?_;refine BM ?_)|(refine BJ ?_;first|refine BN ?_|refine BO ?_)|refine BP ?_)|(refine BK ?_;first|refine BS rfl rfl ?_|refine BT rfl rfl ?_|refine BU rfl ?_)|(refine BL ?_;first|refine BQ ?_)|(refine BR ?_;try simp only [setS]))|refine AA ?_|refine AC ?_|refine AD ?_|refine AE ?_|refine AF rfl rfl ?_|refine AG rfl rfl ?_|refine AH ?_|refine AI ?_|refine AJ ?_|refine AK ?_|refine AL ?_|refine AM ?_|refine AN ?_|refine AO ?_|refine AP ?_|refine AQ rfl ?_|refine AR ?_|refine AS ?_|refine AT rfl ?_|refine AU rfl ?_
    refine wr_call_e rfl ((rparts_ok hE T hd).mono fun x h1 ⟨e1, e2⟩ => ?_)
    subst e2
    have e1 := e1.symm
    subst e1
    have hn64 : n.natAbs < 18446744073709551616 := by omega
    have hd64 : d.natAbs < 18446744073709551616 := by omega
    have hg' : 0 < n.natAbs.gcd d.natAbs := Nat.gcd_pos_of_pos_right _ (by omega)
    have enew : newF n d = if maxN < n.natAbs / gq n d ∨ maxN < d.natAbs / gq n d then ((0, 0), 23) else ((if decide (n < 0) = decide (d < 0) then ((n.natAbs / gq n d : Nat) : Int) else -((n.natAbs / gq n d : Nat) : Int), ((d.natAbs / gq n d : Nat) : Int)), 0) := by unfold newF; rw [if_neg h0]
    unfold gq at enew
    rw [enew]
    have hAn := Nat.div_le_self n.natAbs (n.natAbs.gcd d.natAbs)
    have hBn := Nat.div_le_self d.natAbs (n.natAbs.gcd d.natAbs)
    generalize h.push (.rw [.int .i64 0, .int .i64 0]) = h1 at *
    repeat first|(refine BG ?_;first|(refine BH ?_;first|(refine BI ?_;refine BM ?_)|(refine BJ ?_;first|refine BN ?_|refine BO ?_)|refine BP ?_)|(refine BK ?_;first|refine BS rfl rfl ?_|refine BT rfl rfl ?_|refine BU rfl ?_)|(refine BL ?_;first|refine BQ ?_)|(refine BR ?_;try simp only [setS]))|refine AA ?_|refine AC ?_|refine AD ?_|refine AE ?_|refine AF rfl rfl ?_|refine AG rfl rfl ?_|refine AI ?_|refine AJ ?_|refine AK ?_|refine AL ?_|refine AM ?_|refine AN ?_|refine AO ?_|refine AP ?_|refine AQ rfl ?_|refine AR ?_|refine AS ?_|refine AT rfl ?_|refine AU rfl ?_
    refine wb_mid (fun t' h' => h' = h1 ∧ ∃ (s9 s11 : AV), t' = [.int .i64 n, .int .i64 d, .ptr h.n 0, .int .i64 0, .bool (decide (n < 0)), .int .u64 (n.natAbs : Nat), .bool (decide (d < 0)), .int .u64 (d.natAbs : Nat), .int .u64 (n.natAbs.gcd d.natAbs : Nat), s9, .bool false, s11, .bot, .bot]) ?_ ?_
    · repeat first|(refine BG ?_;first|(refine BH ?_;first|(refine BI ?_;refine BM ?_)|(refine BJ ?_;first|refine BN ?_|refine BO ?_)|refine BP ?_)|(refine BK ?_;first|refine BS rfl rfl ?_|refine BT rfl rfl ?_|refine BU rfl ?_)|(refine BL ?_;first|refine BQ ?_)|(refine BR ?_;try simp only [setS]))|refine AA ?_|refine AC ?_|refine AD ?_|refine AE ?_|refine AF rfl rfl ?_|refine AG rfl rfl ?_|refine AH ?_|refine AI ?_|refine AJ ?_|refine AK ?_|refine AL ?_|refine AM ?_|refine AN ?_|refine AO ?_|refine AP ?_|refine AQ rfl ?_|refine AR ?_|refine AS ?_|refine AT rfl ?_|refine AU rfl ?_
      refine wb_loop (fun k t hh => ∃ (c e : Nat) (s11 : AV), k = e ∧ hh = h1 ∧ Nat.gcd c e = Nat.gcd n.natAbs d.natAbs ∧ t = [.int .i64 n, .int .i64 d, .ptr h.n 0, .int .i64 0, .bool (decide (n < 0)), .int .u64 (n.natAbs : Nat), .bool (decide (d < 0)), .int .u64 (d.natAbs : Nat), .int .u64 c, .int .u64 e, .bool false, s11, .bot, .bot]) ?_ d.natAbs _ _ ⟨n.natAbs, d.natAbs, _, rfl, rfl, rfl, rfl⟩
      rintro k t hh ⟨c, e, s11, hm, eh, hg, rfl⟩
      have eh := eh.symm
      subst eh
      by_cases he : 0 < e
      · have hne : ((e : Nat) : Int) ≠ 0 := by omega
        repeat first|(refine BG ?_;first|(refine BH ?_;first|(refine BI ?_;refine BM ?_)|(refine BJ ?_;first|refine BN ?_|refine BO ?_)|refine BP ?_)|(refine BK ?_;first|refine BS rfl rfl ?_|refine BT rfl rfl ?_|refine BU rfl ?_)|(refine BL ?_;first|refine BQ ?_)|(refine BR ?_;try simp only [setS]))|refine AA ?_|refine AC ?_|refine AD ?_|refine AE ?_|refine AF rfl rfl ?_|refine AG rfl rfl ?_|refine AH ?_|refine AI ?_|refine AJ ?_|refine AK ?_|refine AL ?_|refine AM ?_|refine AN ?_|refine AO ?_|refine AP ?_|refine AQ rfl ?_|refine AR ?_|refine AS ?_|refine AT rfl ?_|refine AU rfl ?_
        repeat first|(refine BG ?_;first|(refine BH ?_;first|(refine BI ?_;refine BM ?_)|(refine BJ ?_;first|refine BN ?_|refine BO ?_)|refine BV (v_remn rfl rfl he) ?_|refine BP ?_)|(refine BK ?_;first|refine BS rfl rfl ?_|refine BT rfl rfl ?_|refine BU rfl ?_)|(refine BL ?_;first|refine BQ ?_)|(refine BR ?_;try simp only [setS]))|(refine BX ?_;first|refine BY rfl ?_|(refine BZ ?_;refine CA ?_)|refine CB (v_remn rfl rfl he) ?_|refine CC ?_|(refine CD ?_;try simp only [setS]))|refine AA ?_|refine AC ?_|refine AD ?_|refine AE ?_|refine AF rfl rfl ?_|refine AG rfl rfl ?_|refine AH ?_|refine AI ?_|refine AJ ?_|refine AK ?_|refine AL ?_|refine AM ?_|refine AN ?_|refine AO ?_|refine AP ?_|refine AQ rfl ?_|refine AR ?_|refine AS ?_|refine AT rfl ?_|refine AU rfl ?_
        have hlt := Nat.mod_lt c he
        refine round_norm (c % e) (by omega) ⟨e, c % e, _, rfl, rfl, ?_, rfl⟩
        rw [← hg, Nat.gcd_comm c e, Nat.gcd_rec e c, Nat.gcd_comm]
      · have he0 : e = 0 := by omega
        subst he0
        rw [Nat.gcd_zero_right] at hg
        repeat first|(refine BG ?_;first|(refine BH ?_;first|(refine BI ?_;refine BM ?_)|(refine BJ ?_;first|refine BN ?_|refine BO ?_)|refine BP ?_)|(refine BK ?_;first|refine BS rfl rfl ?_|refine BT rfl rfl ?_|refine BU rfl ?_)|(refine BL ?_;first|refine BQ ?_)|(refine BR ?_;try simp only [setS]))|refine AA ?_|refine AC ?_|refine AD ?_|refine AE ?_|refine AF rfl rfl ?_|refine AG rfl rfl ?_|refine AH ?_|refine AI ?_|refine AJ ?_|refine AK ?_|refine AL ?_|refine AM ?_|refine AN ?_|refine AO ?_|refine AP ?_|refine AQ rfl ?_|refine AR ?_|refine AS ?_|refine AT rfl ?_|refine AU rfl ?_
        rw [hg]
        exact mid_norm ⟨rfl, _, _, rfl⟩
    rintro t' h' ⟨eh, s9, s11, rfl⟩
    have eh := eh.symm
    subst eh
    repeat first|(refine BG ?_;first|(refine BH ?_;first|(refine BI ?_;refine BM ?_)|(refine BJ ?_;first|refine BN ?_|refine BO ?_)|refine BV (v_quou rfl rfl hg' hn64) ?_|refine BV (v_quou rfl rfl hg' hd64) ?_|refine BP ?_)|(refine BK ?_;first|refine BS rfl rfl ?_|refine BT rfl rfl ?_|refine BU rfl ?_)|(refine BL ?_;first|refine BQ ?_)|(refine BR ?_;try simp only [setS]))|(refine BX ?_;first|refine BY rfl ?_|(refine BZ ?_;refine CA ?_)|refine CB (v_quou rfl rfl hg' hn64) ?_|refine CB (v_quou rfl rfl hg' hd64) ?_|refine CC ?_|(refine CD ?_;try simp only [setS]))|refine AA ?_|refine AC ?_|refine AD ?_|refine AE ?_|refine AF rfl rfl ?_|refine AG rfl rfl ?_|refine AH ?_|refine AI ?_|refine AJ ?_|refine AK ?_|refine AL ?_|refine AM ?_|refine AN ?_|refine AO ?_|refine AP ?_|refine AQ rfl ?_|refine AR ?_|refine AS ?_|refine AT rfl ?_|refine AU rfl ?_
    generalize n.natAbs / n.natAbs.gcd d.natAbs = A at *
    generalize d.natAbs / n.natAbs.gcd d.natAbs = B at *
    by_cases hA : maxN < A
    · rw [if_pos (.inl hA), decide_eq_true (show (2147483647 : Int) < (A : Nat) by unfold maxN at hA; omega)]
      repeat first|(refine BG ?_;first|(refine BH ?_;first|(refine BI ?_;refine BM ?_)|(refine BJ ?_;first|refine BN ?_|refine BO ?_)|refine BP ?_)|(refine BK ?_;first|refine BS rfl rfl ?_|refine BT rfl rfl ?_|refine BU rfl ?_)|(refine BL ?_;first|refine BW (ef_bxn bx rfl rfl rfl rfl (Nat.le_refl _)) ?_|refine BQ ?_)|(refine BR ?_;try simp only [setS]))|refine AA ?_|refine AC ?_|refine AD ?_|refine AE ?_|refine AF rfl rfl ?_|refine AG rfl rfl ?_|refine AH ?_|refine AI ?_|refine AJ ?_|refine AK ?_|refine AL ?_|refine AM ?_|refine AN ?_|refine AO ?_|refine AP ?_|refine AQ rfl ?_|refine AR ?_|refine AS ?_|refine AT rfl ?_|refine AU rfl ?_
      exact fin_q (q := (0, 0)) (er := 23) bx.put rfl rfl ⟨fin0 (q := (0, 0)), rfl⟩
    · rw [decide_eq_false (show ¬ (2147483647 : Int) < (A : Nat) by unfold maxN at hA; omega)]
      by_cases hB : maxN < B
      · have hB' : (2147483647 : Int) < (B : Nat) := by unfold maxN at hB; omega
        rw [if_pos (.inr hB)]
        repeat first|(refine BG ?_;first|(refine BH ?_;first|(refine BI ?_;refine BM ?_)|(refine BJ ?_;first|refine BN ?_|refine BO ?_)|refine BP ?_)|(refine BK ?_;first|refine BS rfl rfl ?_|refine BT rfl rfl ?_|refine BU rfl ?_)|(refine BL ?_;first|refine BW (ef_bxn bx rfl rfl rfl rfl (Nat.le_refl _)) ?_|refine BQ ?_)|(refine BR ?_;try simp only [setS]))|refine AA ?_|refine AC ?_|refine AD ?_|refine AE ?_|refine AF rfl rfl ?_|refine AG rfl rfl ?_|refine AH ?_|refine AI ?_|refine AJ ?_|refine AK ?_|refine AL ?_|refine AM ?_|refine AN ?_|refine AO ?_|refine AP ?_|refine AQ rfl ?_|refine AR ?_|refine AS ?_|refine AT rfl ?_|refine AU rfl ?_
        exact fin_q (q := (0, 0)) (er := 23) bx.put rfl rfl ⟨fin0 (q := (0, 0)), rfl⟩
      · have hB' : ¬ (2147483647 : Int) < (B : Nat) := by unfold maxN at hB; omega
        have hA' : (A : Int) ≤ 2147483647 := by unfold maxN at hA; omega
        rw [if_neg (by rintro (q | q); exact hA q; exact hB q)]
        by_cases hs : decide (n < 0) = decide (d < 0)
        · rw [if_pos hs, hs]
          repeat first|(refine BG ?_;first|(refine BH ?_;first|(refine BI ?_;refine BM ?_)|(refine BJ ?_;first|refine BN ?_|refine BO ?_)|refine BV (v_bnef rfl rfl) ?_|refine BV (v_convi rfl (by omega)) ?_|refine BP ?_)|(refine BK ?_;first|refine BS rfl rfl ?_|refine BT rfl rfl ?_|refine BU rfl ?_)|(refine BL ?_;first|refine BW (ef_bxn bx rfl rfl rfl rfl (Nat.le_refl _)) ?_|refine BQ ?_)|(refine BR ?_;try simp only [setS]))|refine AA ?_|refine AC ?_|refine AD ?_|refine AE ?_|refine AF rfl rfl ?_|refine AG rfl rfl ?_|refine AH ?_|refine AI ?_|refine AJ ?_|refine AK ?_|refine AL ?_|refine AM ?_|refine AN ?_|refine AO ?_|refine AP ?_|refine AQ rfl ?_|refine AR ?_|refine AS ?_|refine AT rfl ?_|refine AU rfl ?_
          exact fin_q (q := ((A : Int), (B : Int))) (er := 0) bx.put rfl rfl ⟨fin0 (q := ((A : Int), (B : Int))), rfl⟩
        · rw [if_neg hs]
          have hs2 : (decide (n < 0) != decide (d < 0)) = true := by simp [bne, hs]
          repeat first|(refine BG ?_;first|(refine BH ?_;first|(refine BI ?_;refine BM ?_)|(refine BJ ?_;first|refine BN ?_|refine BO ?_)|refine BV (v_bne2 rfl rfl hs2) ?_|refine BV (v_convi rfl (by omega)) ?_|refine BV (v_neg rfl (by omega)) ?_|refine BP ?_)|(refine BK ?_;first|refine BS rfl rfl ?_|refine BT rfl rfl ?_|refine BU rfl ?_)|(refine BL ?_;first|refine BW (ef_bxn bx rfl rfl rfl rfl (Nat.le_refl _)) ?_|refine BQ ?_)|(refine BR ?_;try simp only [setS]))|refine AA ?_|refine AC ?_|refine AD ?_|refine AE ?_|refine AF rfl rfl ?_|refine AG rfl rfl ?_|refine AH ?_|refine AI ?_|refine AJ ?_|refine AK ?_|refine AL ?_|refine AM ?_|refine AN ?_|refine AO ?_|refine AP ?_|refine AQ rfl ?_|refine AR ?_|refine AS ?_|refine AT rfl ?_|refine AU rfl ?_
          exact fin_q (q := (-(A : Int), (B : Int))) (er := 0) bx.put rfl rfl ⟨fin0 (q := (-(A : Int), (B : Int))), rfl⟩
def opF (k : Int) (a b : QQ) : QQ × Int := if k = 43 then addF a b else if k = 45 then subF a b else if k = 42 then mulF a b else divF a b
theorem opF_left {k : Int} {a b : QQ} (h : rightF a = false ∨ rightF b = false) : opF k a b = ((0, 0), 1) := by
  have e : (rightF a && rightF b) = false := by rcases h with h | h <;> simp [h]
  unfold opF addF subF mulF divF
  rw [e]
  simp
set_option maxHeartbeats 2000000 in
theorem rop_ok (hE : ∀ f e, E f = some e → e.plain) (T : QrT E) {h : Hp X} {a b : QQ} {k : Int} (ha : I64Q a) (hb : I64Q b) (hk : k = 43 ∨ k = 45 ∨ k = 42 ∨ k = 47) : WF (lim E) 14 [.int .u8 k, qv a, qv b] h fun x h' => Keep NoB h h' ∧ x = qe (opF k a b) := by
  refine wf_bc hE T.op rfl ?_
  simp only [b_ref1Op, List.map, getS]
  obtain ⟨bA, bB, bC, kp, hn3⟩ := box3 h [.int .i64 a.1, .int .i64 a.2] [.int .i64 b.1, .int .i64 b.2] [.int .i64 0, .int .i64 0]
  have fin0 : ∀ {hh : Hp X} (K : Keep NoB h hh) {q : QQ}, Keep NoB h (hh.put ((h.push (.rw [.int .i64 a.1, .int .i64 a.2])).push (.rw [.int .i64 b.1, .int .i64 b.2])).n (.rw [.int .i64 q.1, .int .i64 q.2])) := fun {hh} K {q} =>
    K.own (Keep.put _ _ _ (S := OneB (((h.push (.rw [.int .i64 a.1, .int .i64 a.2])).push (.rw [.int .i64 b.1, .int .i64 b.2])).n)) rfl) (fun k q => by have q : k = h.n + 2 := q; omega)
  repeat first|(refine BG ?_;first|(refine BH ?_;first|(refine BI ?_;refine BM ?_)|(refine BJ ?_;first|refine BN ?_|refine BO ?_)|refine BV (v_bxn bA rfl (Nat.le_refl _)) ?_|refine BP ?_)|(refine BK ?_;first|refine BS rfl rfl ?_|refine BT rfl rfl ?_|refine BU rfl ?_)|(refine BL ?_;first|refine BW (ef_box rfl int_all2) ?_|refine BQ ?_)|(refine BR ?_;try simp only [setS]))|refine AA ?_|refine AC ?_|refine AD ?_|refine AE ?_|refine AF rfl rfl ?_|refine AG rfl rfl ?_|refine AH ?_|refine AI ?_|refine AJ ?_|refine AK ?_|refine AL ?_|refine AM ?_|refine AN ?_|refine AO ?_|refine AP ?_|refine AQ rfl ?_|refine AR ?_|refine AS ?_|refine AT rfl ?_|refine AU rfl ?_
  generalize ((h.push (.rw [.int .i64 a.1, .int .i64 a.2])).push (.rw [.int .i64 b.1, .int .i64 b.2])).push (.rw [.int .i64 0, .int .i64 0]) = h3 at *
  refine wr_call_e rfl ((rright_ok hE T ha).mono fun x h4 ⟨k4, e4⟩ => ?_)
  subst e4
  have bA := bA.up k4
  have bB := bB.up k4
  have bC := bC.up k4
  have K4 := kp.and k4
  rcases Bool.eq_false_or_eq_true (rightF a) with hra | hra
  case' inr =>
    rw [opF_left (.inl hra), hra]
    repeat first|(refine BG ?_;first|(refine BH ?_;first|(refine BI ?_;refine BM ?_)|(refine BJ ?_;first|refine BN ?_|refine BO ?_)|refine BV (v_notb rfl) ?_|refine BP ?_)|(refine BK ?_;first|refine BS rfl rfl ?_|refine BT rfl rfl ?_|refine BU rfl ?_)|(refine BL ?_;first|refine BW (ef_bxn bC rfl rfl rfl rfl (Nat.le_refl _)) ?_|refine BQ ?_)|(refine BR ?_;try simp only [setS]))|refine AA ?_|refine AC ?_|refine AD ?_|refine AE ?_|refine AF rfl rfl ?_|refine AG rfl rfl ?_|refine AH ?_|refine AI ?_|refine AJ ?_|refine AK ?_|refine AL ?_|refine AM ?_|refine AN ?_|refine AO ?_|refine AP ?_|refine AQ rfl ?_|refine AR ?_|refine AS ?_|refine AT rfl ?_|refine AU rfl ?_
    exact fin_q (q := (0, 0)) (er := 1) bC.put rfl rfl ⟨fin0 K4 (q := (0, 0)), rfl⟩
  rw [hra]
  repeat first|(refine BG ?_;first|(refine BH ?_;first|(refine BI ?_;refine BM ?_)|(refine BJ ?_;first|refine BN ?_|refine BO ?_)|refine BV (v_notb rfl) ?_|refine BV (v_bxn bB rfl (Nat.le_refl _)) ?_|refine BP ?_)|(refine BK ?_;first|refine BS rfl rfl ?_|refine BT rfl rfl ?_|refine BU rfl ?_)|(refine BL ?_;first|refine BQ ?_)|(refine BR ?_;try simp only [setS]))|refine AA ?_|refine AC ?_|refine AD ?_|refine AE ?_|refine AF rfl rfl ?_|refine AG rfl rfl ?_|refine AH ?_|refine AI ?_|refine AJ ?_|refine AK ?_|refine AL ?_|refine AM ?_|refine AN ?_|refine AO ?_|refine AP ?_|refine AQ rfl ?_|refine AR ?_|refine AS ?_|refine AT rfl ?_|refine AU rfl ?_
  refine wr_call_e rfl ((rright_ok hE T hb).mono fun x h5 ⟨k5, e5⟩ => ?_)
  subst e5
  have bA := bA.up k5
  have bB := bB.up k5
  have bC := bC.up k5
  have K5 := K4.and k5
  rcases Bool.eq_false_or_eq_true (rightF b) with hrb | hrb
  case' inr =>
    rw [opF_left (.inr hrb), hrb]
    repeat first|(refine BG ?_;first|(refine BH ?_;first|(refine BI ?_;refine BM ?_)|(refine BJ ?_;first|refine BN ?_|refine BO ?_)|refine BV (v_notb rfl) ?_|refine BP ?_)|(refine BK ?_;first|refine BS rfl rfl ?_|refine BT rfl rfl ?_|refine BU rfl ?_)|(refine BL ?_;first|refine BW (ef_bxn bC rfl rfl rfl rfl (Nat.le_refl _)) ?_|refine BQ ?_)|(refine BR ?_;try simp only [setS]))|refine AA ?_|refine AC ?_|refine AD ?_|refine AE ?_|refine AF rfl rfl ?_|refine AG rfl rfl ?_|refine AH ?_|refine AI ?_|refine AJ ?_|refine AK ?_|refine AL ?_|refine AM ?_|refine AN ?_|refine AO ?_|refine AP ?_|refine AQ rfl ?_|refine AR ?_|refine AS ?_|refine AT rfl ?_|refine AU rfl ?_
    exact fin_q (q := (0, 0)) (er := 1) bC.put rfl rfl ⟨fin0 K5 (q := (0, 0)), rfl⟩
  rw [hrb]
  have ra := right_iff.1 hra
  have rb := right_iff.1 hrb
  rcases hk with rfl | rfl | rfl | rfl
  · have e : opF 43 a b = addF a b := rfl
    rw [e]
    unfold addF
    rw [hra, hrb, if_pos (by rfl)]
    have m1' := mulN ra.n rb.d
    have m2' := mulN rb.n ra.d
    have m3' := mulN ra.d rb.d
    repeat first|(refine BG ?_;first|(refine BH ?_;first|(refine BI ?_;refine BM ?_)|(refine BJ ?_;first|refine BN ?_|refine BO ?_)|refine BV (v_notb rfl) ?_|refine BV (v_bx bA rfl rfl) ?_|refine BV (v_bx bB rfl rfl) ?_|refine BV (v_muli rfl rfl m1') ?_|refine BV (v_muli rfl rfl m2') ?_|refine BV (v_muli rfl rfl m3') ?_|refine BV (v_add rfl rfl (by omega)) ?_|refine BP ?_)|(refine BK ?_;first|refine BS rfl rfl ?_|refine BT rfl rfl ?_|refine BU rfl ?_)|(refine BL ?_;first|refine BQ ?_)|(refine BR ?_;try simp only [setS]))|refine AA ?_|refine AC ?_|refine AD ?_|refine AE ?_|refine AF rfl rfl ?_|refine AG rfl rfl ?_|refine AH ?_|refine AI ?_|refine AJ ?_|refine AK ?_|refine AL ?_|refine AM ?_|refine AN ?_|refine AO ?_|refine AP ?_|refine AQ rfl ?_|refine AR ?_|refine AS ?_|refine AT rfl ?_|refine AU rfl ?_
    refine wr_call_e rfl ((rnew_ok hE T (n := a.1 * b.2 + b.1 * a.2) (d := a.2 * b.2) ⟨by omega, by omega⟩ (mulI m3')).mono fun x h6 ⟨k6, e6⟩ => ?_)
    subst e6
    have bC := bC.up k6
    have K6 := K5.and k6
    generalize newF (a.1 * b.2 + b.1 * a.2) (a.2 * b.2) = r at *
    obtain ⟨⟨m1, m2⟩, er⟩ := r
    repeat first|(refine BG ?_;first|(refine BH ?_;first|(refine BI ?_;refine BM ?_)|(refine BJ ?_;first|refine BN ?_|refine BO ?_)|refine BP ?_)|(refine BK ?_;first|refine BS rfl rfl ?_|refine BT rfl rfl ?_|refine BU rfl ?_)|(refine BL ?_;first|refine BW (ef_bxn bC rfl rfl rfl rfl (Nat.le_refl _)) ?_|refine BQ ?_)|(refine BR ?_;try simp only [setS]))|refine AA ?_|refine AC ?_|refine AD ?_|refine AE ?_|refine AF rfl rfl ?_|refine AG rfl rfl ?_|refine AH ?_|refine AI ?_|refine AJ ?_|refine AK ?_|refine AL ?_|refine AM ?_|refine AN ?_|refine AO ?_|refine AP ?_|refine AQ rfl ?_|refine AR ?_|refine AS ?_|refine AT rfl ?_|refine AU rfl ?_
    exact fin_q (q := (m1, m2)) (er := er) bC.put rfl rfl ⟨fin0 K6 (q := (m1, m2)), rfl⟩
  · have e : opF 45 a b = subF a b := rfl
    rw [e]
    unfold subF
    rw [hra, hrb, if_pos (by rfl)]
    have m1' := mulN ra.n rb.d
    have m2' := mulN rb.n ra.d
    have m3' := mulN ra.d rb.d
    repeat first|(refine BG ?_;first|(refine BH ?_;first|(refine BI ?_;refine BM ?_)|(refine BJ ?_;first|refine BN ?_|refine BO ?_)|refine BV (v_notb rfl) ?_|refine BV (v_bx bA rfl rfl) ?_|refine BV (v_bx bB rfl rfl) ?_|refine BV (v_muli rfl rfl m1') ?_|refine BV (v_muli rfl rfl m2') ?_|refine BV (v_muli rfl rfl m3') ?_|refine BV (v_subi rfl rfl (by omega)) ?_|refine BP ?_)|(refine BK ?_;first|refine BS rfl rfl ?_|refine BT rfl rfl ?_|refine BU rfl ?_)|(refine BL ?_;first|refine BQ ?_)|(refine BR ?_;try simp only [setS]))|refine AA ?_|refine AC ?_|refine AD ?_|refine AE ?_|refine AF rfl rfl ?_|refine AG rfl rfl ?_|refine AH ?_|refine AI ?_|refine AJ ?_|refine AK ?_|refine AL ?_|refine AM ?_|refine AN ?_|refine AO ?_|refine AP ?_|refine AQ rfl ?_|refine AR ?_|refine AS ?_|refine AT rfl ?_|refine AU rfl ?_
    refine wr_call_e rfl ((rnew_ok hE T (n := a.1 * b.2 - b.1 * a.2) (d := a.2 * b.2) ⟨by omega, by omega⟩ (mulI m3')).mono fun x h6 ⟨k6, e6⟩ => ?_)
    subst e6
    have bC := bC.up k6
    have K6 := K5.and k6
    generalize newF (a.1 * b.2 - b.1 * a.2) (a.2 * b.2) = r at *
    obtain ⟨⟨m1, m2⟩, er⟩ := r
    repeat first|(refine BG ?_;first|(refine BH ?_;first|(refine BI ?_;refine BM ?_)|(refine BJ ?_;first|refine BN ?_|refine BO ?_)|refine BP ?_)|(refine BK ?_;first|refine BS rfl rfl ?_|refine BT rfl rfl ?_|refine BU rfl ?_)|(refine BL ?_;first|refine BW (ef_bxn bC rfl rfl rfl rfl (Nat.le_refl _)) ?_|refine BQ ?_)|(refine BR ?_;try simp only [setS]))|refine AA ?_|refine AC ?_|refine AD ?_|refine AE ?_|refine AF rfl rfl ?_|refine AG rfl rfl ?_|refine AH ?_|refine AI ?_|refine AJ ?_|refine AK ?_|refine AL ?_|refine AM ?_|refine AN ?_|refine AO ?_|refine AP ?_|refine AQ rfl ?_|refine AR ?_|refine AS ?_|refine AT rfl ?_|refine AU rfl ?_
    exact fin_q (q := (m1, m2)) (er := er) bC.put rfl rfl ⟨fin0 K6 (q := (m1, m2)), rfl⟩
  · have e : opF 42 a b = mulF a b := rfl
    rw [e]
    unfold mulF
    rw [hra, hrb, if_pos (by rfl)]
    have m1' := mulN ra.n rb.n
    have m3' := mulN ra.d rb.d
    repeat first|(refine BG ?_;first|(refine BH ?_;first|(refine BI ?_;refine BM ?_)|(refine BJ ?_;first|refine BN ?_|refine BO ?_)|refine BV (v_notb rfl) ?_|refine BV (v_bx bA rfl rfl) ?_|refine BV (v_bx bB rfl rfl) ?_|refine BV (v_muli rfl rfl m1') ?_|refine BV (v_muli rfl rfl m3') ?_|refine BP ?_)|(refine BK ?_;first|refine BS rfl rfl ?_|refine BT rfl rfl ?_|refine BU rfl ?_)|(refine BL ?_;first|refine BQ ?_)|(refine BR ?_;try simp only [setS]))|refine AA ?_|refine AC ?_|refine AD ?_|refine AE ?_|refine AF rfl rfl ?_|refine AG rfl rfl ?_|refine AH ?_|refine AI ?_|refine AJ ?_|refine AK ?_|refine AL ?_|refine AM ?_|refine AN ?_|refine AO ?_|refine AP ?_|refine AQ rfl ?_|refine AR ?_|refine AS ?_|refine AT rfl ?_|refine AU rfl ?_
    refine wr_call_e rfl ((rnew_ok hE T (n := a.1 * b.1) (d := a.2 * b.2) (mulI m1') (mulI m3')).mono fun x h6 ⟨k6, e6⟩ => ?_)
    subst e6
    have bC := bC.up k6
    have K6 := K5.and k6
    generalize newF (a.1 * b.1) (a.2 * b.2) = r at *
    obtain ⟨⟨m1, m2⟩, er⟩ := r
    repeat first|(refine BG ?_;first|(refine BH ?_;first|(refine BI ?_;refine BM ?_)|(refine BJ ?_;first|refine BN ?_|refine BO ?_)|refine BP ?_)|(refine BK ?_;first|refine BS rfl rfl ?_|refine BT rfl rfl ?_|refine BU rfl ?_)|(refine BL ?_;first|refine BW (ef_bxn bC rfl rfl rfl rfl (Nat.le_refl _)) ?_|refine BQ ?_)|(refine BR ?_;try simp only [setS]))|refine AA ?_|refine AC ?_|refine AD ?_|refine AE ?_|refine AF rfl rfl ?_|refine AG rfl rfl ?_|refine AH ?_|refine AI ?_|refine AJ ?_|refine AK ?_|refine AL ?_|refine AM ?_|refine AN ?_|refine AO ?_|refine AP ?_|refine AQ rfl ?_|refine AR ?_|refine AS ?_|refine AT rfl ?_|refine AU rfl ?_
    exact fin_q (q := (m1, m2)) (er := er) bC.put rfl rfl ⟨fin0 K6 (q := (m1, m2)), rfl⟩
  · have e : opF 47 a b = divF a b := rfl
    rw [e]
    unfold divF
    rw [hra, hrb, if_pos (by rfl)]
    have m1' := mulN ra.n rb.d
    have m3' := mulN ra.d rb.n
    by_cases hz : b.1 = 0
    · have e0 : newF (a.1 * b.2) (a.2 * b.1) = ((0, 0), 1) := by rw [hz, Int.mul_zero]; unfold newF; rw [if_pos rfl]
      rw [e0]
      repeat first|(refine BG ?_;first|(refine BH ?_;first|(refine BI ?_;refine BM ?_)|(refine BJ ?_;first|refine BN ?_|refine BO ?_)|refine BV (v_notb rfl) ?_|refine BV (v_bx bA rfl rfl) ?_|refine BV (v_bx bB rfl rfl) ?_|refine BP ?_)|(refine BK ?_;first|refine BS rfl rfl ?_|refine BT rfl rfl ?_|refine BU rfl ?_)|(refine BL ?_;first|refine BW (ef_bxn bC rfl rfl rfl rfl (Nat.le_refl _)) ?_|refine BQ ?_)|(refine BR ?_;try simp only [setS]))|refine AA ?_|refine AC ?_|refine AD ?_|refine AE ?_|refine AF rfl rfl ?_|refine AG rfl rfl ?_|refine AH ?_|refine AI ?_|refine AJ ?_|refine AK ?_|refine AL ?_|refine AM ?_|refine AN ?_|refine AO ?_|refine AP ?_|refine AQ rfl ?_|refine AR ?_|refine AS ?_|refine AT rfl ?_|refine AU rfl ?_
      exact fin_q (q := (0, 0)) (er := 1) bC.put rfl rfl ⟨fin0 K5 (q := (0, 0)), rfl⟩
    repeat first|(refine BG ?_;first|(refine BH ?_;first|(refine BI ?_;refine BM ?_)|(refine BJ ?_;first|refine BN ?_|refine BO ?_)|refine BV (v_notb rfl) ?_|refine BV (v_bx bA rfl rfl) ?_|refine BV (v_bx bB rfl rfl) ?_|refine BV (v_muli rfl rfl m1') ?_|refine BV (v_muli rfl rfl m3') ?_|refine BP ?_)|(refine BK ?_;first|refine BS rfl rfl ?_|refine BT rfl rfl ?_|refine BU rfl ?_)|(refine BL ?_;first|refine BQ ?_)|(refine BR ?_;try simp only [setS]))|refine AA ?_|refine AC ?_|refine AD ?_|refine AE ?_|refine AF rfl rfl ?_|refine AG rfl rfl ?_|refine AH ?_|refine AI ?_|refine AJ ?_|refine AK ?_|refine AL ?_|refine AM ?_|refine AN ?_|refine AO ?_|refine AP ?_|refine AQ rfl ?_|refine AR ?_|refine AS ?_|refine AT rfl ?_|refine AU rfl ?_
    refine wr_call_e rfl ((rnew_ok hE T (n := a.1 * b.2) (d := a.2 * b.1) (mulI m1') (mulI m3')).mono fun x h6 ⟨k6, e6⟩ => ?_)
    subst e6
    have bC := bC.up k6
    have K6 := K5.and k6
    generalize newF (a.1 * b.2) (a.2 * b.1) = r at *
    obtain ⟨⟨m1, m2⟩, er⟩ := r
    repeat first|(refine BG ?_;first|(refine BH ?_;first|(refine BI ?_;refine BM ?_)|(refine BJ ?_;first|refine BN ?_|refine BO ?_)|refine BP ?_)|(refine BK ?_;first|refine BS rfl rfl ?_|refine BT rfl rfl ?_|refine BU rfl ?_)|(refine BL ?_;first|refine BW (ef_bxn bC rfl rfl rfl rfl (Nat.le_refl _)) ?_|refine BQ ?_)|(refine BR ?_;try simp only [setS]))|refine AA ?_|refine AC ?_|refine AD ?_|refine AE ?_|refine AF rfl rfl ?_|refine AG rfl rfl ?_|refine AH ?_|refine AI ?_|refine AJ ?_|refine AK ?_|refine AL ?_|refine AM ?_|refine AN ?_|refine AO ?_|refine AP ?_|refine AQ rfl ?_|refine AR ?_|refine AS ?_|refine AT rfl ?_|refine AU rfl ?_
    exact fin_q (q := (m1, m2)) (er := er) bC.put rfl rfl ⟨fin0 K6 (q := (m1, m2)), rfl⟩
end
end Am
end Go.Proofs.Ytkgplkddpigagaa
