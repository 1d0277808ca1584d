/- Layer 23: the document's series: Right, Between, At. -/
import Derived.Test.YtkgplkddpigagaaQcA
set_option linter.unusedVariables false
set_option linter.unusedSimpArgs false
namespace Go.Proofs.Ytkgplkddpigagaa
namespace Am
open Go.RowKit
set_option maxRecDepth 100000
def b_ref21Right : BF := ⟨51, [0, 2, 3, 7, 50], (.seq (.reg [.mk none (.slot 1) (.mov (.mv (.const (.bool false))))]) (.seq (.seq (.reg [.mk none (.slot 2) (.mov (.mv (.const (.int .i64 0))))]) (.block 0 (.loop (.seq (.seq (.reg [.mk none (.env 4) (.mov (.mv (.slot 2))), .mk none (.env 5) (.mov (.mv (.slot 0))), .mk none (.env 6) (.mov (.lenv (.env 5))), .mk none (.slot 3) (.mov (.bin .lss .no (.env 4) (.env 6)))]) (.cond (.slot 3) .skip (.exit 0))) (.seq (.block 1 (.seq (.dreg [(.mk none (.env 10) (.mov (.mv (.slot 0))), []), (.mk none (.env 11) (.mov (.mv (.slot 2))), []), (.mk none (.env 12) (.mov (.iaddr 3 (.env 10) (.env 11))), []), (.mk none (.env 13) (.mov (.faddr 0 (.env 12))), []), (.mk none (.env 14) (.mov (.ld1 (.env 13))), []), (.mk none (.env 15) (.mov (.bin .lss .no (.env 14) (.const (.int .i64 0)))), []), (.mk none (.env 16) (.mov (.mv (.env 15))), []), (.mk (some ((.env 16), false)) (.env 17) (.mov (.mv (.slot 0))), []), (.mk (some ((.env 16), false)) (.env 18) (.mov (.mv (.slot 2))), []), (.mk (some ((.env 16), false)) (.env 19) (.mov (.iaddr 3 (.env 17) (.env 18))), []), (.mk (some ((.env 16), false)) (.env 20) (.mov (.faddr 0 (.env 19))), []), (.mk (some ((.env 16), false)) (.env 21) (.mov (.ld1 (.env 20))), []), (.mk (some ((.env 16), false)) (.env 22) (.mov (.bin .gtr .no (.env 21) (.const (.int .i64 4294967295)))), []), (.mk none (.env 23) (.mov (.pick (.env 16) (.const (.bool true)) (.env 22))), []), (.mk none (.env 24) (.mov (.mv (.env 23))), []), (.mk (some ((.env 24), false)) (.env 25) (.mov (.mv (.slot 0))), []), (.mk (some ((.env 24), false)) (.env 26) (.mov (.mv (.slot 2))), []), (.mk (some ((.env 24), false)) (.env 27) (.mov (.iaddr 3 (.env 25) (.env 26))), []), (.mk (some ((.env 24), false)) (.env 28) (.mov (.faddr 1 (.env 27))), []), (.mk (some ((.env 24), false)) (.env 29) (.mov (.ldn 2 (.env 28))), []), (.mk (some ((.env 24), false)) (.env 30) (.call 28 [(.env 29)]), []), (.mk (some ((.env 24), false)) (.env 31) (.mov (.notb (.env 30))), []), (.mk none (.env 32) (.mov (.pick (.env 24) (.const (.bool true)) (.env 31))), []), (.mk none (.env 33) (.mov (.mv (.env 32))), []), (.mk (some ((.env 33), false)) (.env 34) (.mov (.mv (.slot 2))), []), (.mk (some ((.env 33), false)) (.env 35) (.mov (.bin .gtr .no (.env 34) (.const (.int .i64 0)))), []), (.mk (some ((.env 33), false)) (.env 36) (.mov (.mv (.env 35))), []), (.mk (some ((.env 36), true)) (.env 37) (.mov (.mv (.slot 0))), []), (.mk (some ((.env 36), true)) (.env 38) (.mov (.mv (.slot 2))), []), (.mk (some ((.env 36), true)) (.env 39) (.mov (.bin .sub .no (.env 38) (.const (.int .i64 1)))), []), (.mk (some ((.env 36), true)) (.env 40) (.mov (.iaddr 3 (.env 37) (.env 39))), []), (.mk (some ((.env 36), true)) (.env 41) (.mov (.faddr 0 (.env 40))), []), (.mk (some ((.env 36), true)) (.env 42) (.mov (.ld1 (.env 41))), []), (.mk (some ((.env 36), true)) (.env 43) (.mov (.mv (.slot 0))), []), (.mk (some ((.env 36), true)) (.env 44) (.mov (.mv (.slot 2))), []), (.mk (some ((.env 36), true)) (.env 45) (.mov (.iaddr 3 (.env 43) (.env 44))), []), (.mk (some ((.env 36), true)) (.env 46) (.mov (.faddr 0 (.env 45))), []), (.mk (some ((.env 36), true)) (.env 47) (.mov (.ld1 (.env 46))), []), (.mk (some ((.env 36), true)) (.env 48) (.mov (.bin .geq .no (.env 42) (.env 47))), []), (.mk (some ((.env 33), false)) (.env 49) (.mov (.pick (.env 36) (.env 48) (.const (.bool false)))), []), (.mk none (.slot 4) (.mov (.pick (.env 33) (.const (.bool true)) (.env 49))), [])]) (.cond (.slot 4) (.seq (.reg [.mk none (.slot 1) (.mov (.mv (.const (.bool false))))]) .ret) .skip))) (.reg [.mk none (.env 8) (.mov (.mv (.slot 2))), .mk none (.env 9) (.mov (.bin .add .no (.env 8) (.const (.int .i64 1)))), .mk none (.slot 2) (.mov (.mv (.env 9)))])))))) (.seq (.reg [.mk none (.slot 1) (.mov (.mv (.const (.bool true))))]) .ret))), [.slot (.slot 1)]⟩
def b_ref21Between : BF := ⟨98, [0, 1, 2, 3, 4, 6, 7, 8, 9, 10, 39, 44, 50, 62, 79, 89], (.seq (.reg [.mk none (.slot 3) (.eff (.box (.slot 0))), .mk none (.slot 4) (.eff (.box (.slot 1))), .mk none (.slot 5) (.eff (.alloc [(.int .i64 0), (.int .i64 0)])), .mk none (.slot 6) (.mov (.mv (.const (.int .i64 0))))]) (.seq (.seq (.reg [.mk none (.env 11) (.mov (.faddr 0 (.slot 3))), .mk none (.env 12) (.mov (.ld1 (.env 11))), .mk none (.env 13) (.mov (.faddr 0 (.slot 4))), .mk none (.env 14) (.mov (.ld1 (.env 13))), .mk none (.env 15) (.mov (.bin .geq .no (.env 12) (.env 14))), .mk none (.env 16) (.mov (.mv (.env 15))), .mk (some ((.env 16), false)) (.env 17) (.mov (.mv (.slot 2))), .mk (some ((.env 16), false)) (.env 18) (.mov (.faddr 0 (.slot 3))), .mk (some ((.env 16), false)) (.env 19) (.mov (.ld1 (.env 18))), .mk (some ((.env 16), false)) (.env 20) (.mov (.bin .lss .no (.env 17) (.env 19))), .mk none (.env 21) (.mov (.pick (.env 16) (.const (.bool true)) (.env 20))), .mk none (.env 22) (.mov (.mv (.env 21))), .mk (some ((.env 22), false)) (.env 23) (.mov (.mv (.slot 2))), .mk (some ((.env 22), false)) (.env 24) (.mov (.faddr 0 (.slot 4))), .mk (some ((.env 22), false)) (.env 25) (.mov (.ld1 (.env 24))), .mk (some ((.env 22), false)) (.env 26) (.mov (.bin .gtr .no (.env 23) (.env 25))), .mk none (.env 27) (.mov (.pick (.env 22) (.const (.bool true)) (.env 26))), .mk none (.env 28) (.mov (.mv (.env 27))), .mk (some ((.env 28), false)) (.env 29) (.mov (.faddr 1 (.slot 3))), .mk (some ((.env 28), false)) (.env 30) (.mov (.ldn 2 (.env 29))), .mk (some ((.env 28), false)) (.env 31) (.call 28 [(.env 30)]), .mk (some ((.env 28), false)) (.env 32) (.mov (.notb (.env 31))), .mk none (.env 33) (.mov (.pick (.env 28) (.const (.bool true)) (.env 32))), .mk none (.env 34) (.mov (.mv (.env 33))), .mk (some ((.env 34), false)) (.env 35) (.mov (.faddr 1 (.slot 4))), .mk (some ((.env 34), false)) (.env 36) (.mov (.ldn 2 (.env 35))), .mk (some ((.env 34), false)) (.env 37) (.call 28 [(.env 36)]), .mk (some ((.env 34), false)) (.env 38) (.mov (.notb (.env 37))), .mk none (.slot 10) (.mov (.pick (.env 34) (.const (.bool true)) (.env 38)))]) (.cond (.slot 10) (.seq (.reg [.mk none (.env 40) (.mov (.bld [(.int .i64 0), (.int .i64 0)] [])), .mk none .none (.eff (.store 2 (.slot 5) (.env 40))), .mk none (.slot 6) (.mov (.mv (.const (.int .i64 1))))]) .ret) .skip)) (.seq (.seq (.reg [.mk none (.env 41) (.mov (.mv (.slot 2))), .mk none (.env 42) (.mov (.faddr 0 (.slot 3))), .mk none (.env 43) (.mov (.ld1 (.env 42))), .mk none (.slot 11) (.mov (.bin .eql .no (.env 41) (.env 43)))]) (.cond (.slot 11) (.seq (.reg [.mk none (.env 45) (.mov (.faddr 1 (.slot 3))), .mk none (.env 46) (.mov (.ldn 2 (.env 45))), .mk none .none (.eff (.store 2 (.slot 5) (.env 46))), .mk none (.slot 6) (.mov (.mv (.const (.int .i64 0))))]) .ret) .skip)) (.seq (.seq (.reg [.mk none (.env 47) (.mov (.mv (.slot 2))), .mk none (.env 48) (.mov (.faddr 0 (.slot 4))), .mk none (.env 49) (.mov (.ld1 (.env 48))), .mk none (.slot 12) (.mov (.bin .eql .no (.env 47) (.env 49)))]) (.cond (.slot 12) (.seq (.reg [.mk none (.env 51) (.mov (.faddr 1 (.slot 4))), .mk none (.env 52) (.mov (.ldn 2 (.env 51))), .mk none .none (.eff (.store 2 (.slot 5) (.env 52))), .mk none (.slot 6) (.mov (.mv (.const (.int .i64 0))))]) .ret) .skip)) (.seq (.reg [.mk none (.env 54) (.mov (.faddr 1 (.slot 4))), .mk none (.env 55) (.mov (.ldn 2 (.env 54))), .mk none (.env 56) (.mov (.faddr 1 (.slot 3))), .mk none (.env 57) (.mov (.ldn 2 (.env 56))), .mk none (.env 58) (.call 14 [(.const (.int .u8 45)), (.env 55), (.env 57)]), .mk none (.env 53) (.mov (.mv (.env 58))), .mk none (.env 59) (.mov (.ext 0 (.env 53))), .mk none (.env 60) (.mov (.ext 1 (.env 53))), .mk none (.slot 7) (.eff (.alloc [(.int .i64 0), (.int .i64 0)])), .mk none .none (.eff (.store 2 (.slot 7) (.env 59))), .mk none (.slot 8) (.mov (.mv (.env 60)))]) (.seq (.seq (.reg [.mk none (.env 61) (.mov (.mv (.slot 8))), .mk none (.slot 13) (.mov (.bin .neq .no (.env 61) (.const (.int .i64 0))))]) (.cond (.slot 13) (.seq (.reg [.mk none (.env 63) (.mov (.bld [(.int .i64 0), (.int .i64 0)] [])), .mk none (.env 64) (.mov (.mv (.slot 8))), .mk none .none (.eff (.store 2 (.slot 5) (.env 63))), .mk none (.slot 6) (.mov (.mv (.env 64)))]) .ret) .skip)) (.seq (.reg [.mk none (.env 66) (.mov (.mv (.slot 2))), .mk none (.env 67) (.mov (.faddr 0 (.slot 3))), .mk none (.env 68) (.mov (.ld1 (.env 67))), .mk none (.env 69) (.mov (.bin .sub .no (.env 66) (.env 68))), .mk none (.env 70) (.mov (.faddr 0 (.slot 4))), .mk none (.env 71) (.mov (.ld1 (.env 70))), .mk none (.env 72) (.mov (.faddr 0 (.slot 3))), .mk none (.env 73) (.mov (.ld1 (.env 72))), .mk none (.env 74) (.mov (.bin .sub .no (.env 71) (.env 73))), .mk none (.env 75) (.call 29 [(.env 69), (.env 74)]), .mk none (.env 65) (.mov (.mv (.env 75))), .mk none (.env 76) (.mov (.ext 0 (.env 65))), .mk none (.env 77) (.mov (.ext 1 (.env 65))), .mk none (.slot 9) (.eff (.alloc [(.int .i64 0), (.int .i64 0)])), .mk none .none (.eff (.store 2 (.slot 9) (.env 76))), .mk none (.slot 8) (.mov (.mv (.env 77)))]) (.seq (.seq (.reg [.mk none (.env 78) (.mov (.mv (.slot 8))), .mk none (.slot 14) (.mov (.bin .neq .no (.env 78) (.const (.int .i64 0))))]) (.cond (.slot 14) (.seq (.reg [.mk none (.env 80) (.mov (.bld [(.int .i64 0), (.int .i64 0)] [])), .mk none (.env 81) (.mov (.mv (.slot 8))), .mk none .none (.eff (.store 2 (.slot 5) (.env 80))), .mk none (.slot 6) (.mov (.mv (.env 81)))]) .ret) .skip)) (.seq (.reg [.mk none (.env 83) (.mov (.ldn 2 (.slot 7))), .mk none (.env 84) (.mov (.ldn 2 (.slot 9))), .mk none (.env 85) (.call 14 [(.const (.int .u8 42)), (.env 83), (.env 84)]), .mk none (.env 82) (.mov (.mv (.env 85))), .mk none (.env 86) (.mov (.ext 0 (.env 82))), .mk none (.env 87) (.mov (.ext 1 (.env 82))), .mk none .none (.eff (.store 2 (.slot 7) (.env 86))), .mk none (.slot 8) (.mov (.mv (.env 87)))]) (.seq (.seq (.reg [.mk none (.env 88) (.mov (.mv (.slot 8))), .mk none (.slot 15) (.mov (.bin .neq .no (.env 88) (.const (.int .i64 0))))]) (.cond (.slot 15) (.seq (.reg [.mk none (.env 90) (.mov (.bld [(.int .i64 0), (.int .i64 0)] [])), .mk none (.env 91) (.mov (.mv (.slot 8))), .mk none .none (.eff (.store 2 (.slot 5) (.env 90))), .mk none (.slot 6) (.mov (.mv (.env 91)))]) .ret) .skip)) (.seq (.reg [.mk none (.env 92) (.mov (.ldn 2 (.slot 7))), .mk none (.env 93) (.mov (.faddr 1 (.slot 3))), .mk none (.env 94) (.mov (.ldn 2 (.env 93))), .mk none (.env 95) (.call 14 [(.const (.int .u8 43)), (.env 92), (.env 94)]), .mk none (.env 96) (.mov (.ext 0 (.env 95))), .mk none (.env 97) (.mov (.ext 1 (.env 95))), .mk none .none (.eff (.store 2 (.slot 5) (.env 96))), .mk none (.slot 6) (.mov (.mv (.env 97)))]) .ret))))))))))), [.celln 2 (.slot 5), .slot (.slot 6)]⟩
def b_ref21At : BF := ⟨72, [0, 1, 4, 5, 6, 7, 8, 9, 12, 17, 26, 52], (.seq (.reg [.mk none (.slot 2) (.eff (.alloc [(.int .i64 0), (.int .i64 0)])), .mk none (.slot 3) (.mov (.mv (.const (.bool false)))), .mk none (.slot 4) (.mov (.mv (.const (.int .i64 0))))]) (.seq (.seq (.reg [.mk none (.env 10) (.mov (.mv (.slot 0))), .mk none (.env 11) (.call 35 [(.env 10)]), .mk none (.slot 8) (.mov (.notb (.env 11)))]) (.cond (.slot 8) (.seq (.reg [.mk none (.env 13) (.mov (.bld [(.int .i64 0), (.int .i64 0)] [])), .mk none .none (.eff (.store 2 (.slot 2) (.env 13))), .mk none (.slot 3) (.mov (.mv (.const (.bool false)))), .mk none (.slot 4) (.mov (.mv (.const (.int .i64 1))))]) .ret) .skip)) (.seq (.seq (.reg [.mk none (.slot 5) (.mov (.mv (.const (.int .i64 0))))]) (.block 0 (.loop (.seq (.seq (.reg [.mk none (.env 14) (.mov (.mv (.slot 5))), .mk none (.env 15) (.mov (.mv (.slot 0))), .mk none (.env 16) (.mov (.lenv (.env 15))), .mk none (.slot 9) (.mov (.bin .lss .no (.env 14) (.env 16)))]) (.cond (.slot 9) .skip (.exit 0))) (.seq (.block 1 (.seq (.seq (.reg [.mk none (.env 20) (.mov (.mv (.slot 0))), .mk none (.env 21) (.mov (.mv (.slot 5))), .mk none (.env 22) (.mov (.iaddr 3 (.env 20) (.env 21))), .mk none (.env 23) (.mov (.faddr 0 (.env 22))), .mk none (.env 24) (.mov (.ld1 (.env 23))), .mk none (.env 25) (.mov (.mv (.slot 1))), .mk none (.slot 10) (.mov (.bin .eql .no (.env 24) (.env 25)))]) (.cond (.slot 10) (.seq (.reg [.mk none (.env 27) (.mov (.mv (.slot 0))), .mk none (.env 28) (.mov (.mv (.slot 5))), .mk none (.env 29) (.mov (.iaddr 3 (.env 27) (.env 28))), .mk none (.env 30) (.mov (.faddr 1 (.env 29))), .mk none (.env 31) (.mov (.ldn 2 (.env 30))), .mk none .none (.eff (.store 2 (.slot 2) (.env 31))), .mk none (.slot 3) (.mov (.mv (.const (.bool true)))), .mk none (.slot 4) (.mov (.mv (.const (.int .i64 0))))]) .ret) .skip)) (.seq (.reg [.mk none (.env 32) (.mov (.mv (.slot 5))), .mk none (.env 33) (.mov (.bin .gtr .no (.env 32) (.const (.int .i64 0)))), .mk none (.env 34) (.mov (.mv (.env 33))), .mk (some ((.env 34), true)) (.env 35) (.mov (.mv (.slot 0))), .mk (some ((.env 34), true)) (.env 36) (.mov (.mv (.slot 5))), .mk (some ((.env 34), true)) (.env 37) (.mov (.bin .sub .no (.env 36) (.const (.int .i64 1)))), .mk (some ((.env 34), true)) (.env 38) (.mov (.iaddr 3 (.env 35) (.env 37))), .mk (some ((.env 34), true)) (.env 39) (.mov (.faddr 0 (.env 38))), .mk (some ((.env 34), true)) (.env 40) (.mov (.ld1 (.env 39))), .mk (some ((.env 34), true)) (.env 41) (.mov (.mv (.slot 1))), .mk (some ((.env 34), true)) (.env 42) (.mov (.bin .lss .no (.env 40) (.env 41))), .mk none (.env 43) (.mov (.pick (.env 34) (.env 42) (.const (.bool false)))), .mk none (.env 44) (.mov (.mv (.env 43))), .mk (some ((.env 44), true)) (.env 45) (.mov (.mv (.slot 1))), .mk (some ((.env 44), true)) (.env 46) (.mov (.mv (.slot 0))), .mk (some ((.env 44), true)) (.env 47) (.mov (.mv (.slot 5))), .mk (some ((.env 44), true)) (.env 48) (.mov (.iaddr 3 (.env 46) (.env 47))), .mk (some ((.env 44), true)) (.env 49) (.mov (.faddr 0 (.env 48))), .mk (some ((.env 44), true)) (.env 50) (.mov (.ld1 (.env 49))), .mk (some ((.env 44), true)) (.env 51) (.mov (.bin .lss .no (.env 45) (.env 50))), .mk none (.slot 11) (.mov (.pick (.env 44) (.env 51) (.const (.bool false))))]) (.cond (.slot 11) (.seq (.dreg [(.mk none (.env 54) (.mov (.mv (.slot 0))), []), (.mk none (.env 55) (.mov (.mv (.slot 5))), []), (.mk none (.env 56) (.mov (.bin .sub .no (.env 55) (.const (.int .i64 1)))), []), (.mk none (.env 57) (.mov (.iaddr 3 (.env 54) (.env 56))), []), (.mk none (.env 58) (.mov (.ldn 3 (.env 57))), []), (.mk none (.env 59) (.mov (.mv (.slot 0))), []), (.mk none (.env 60) (.mov (.mv (.slot 5))), []), (.mk none (.env 61) (.mov (.iaddr 3 (.env 59) (.env 60))), []), (.mk none (.env 62) (.mov (.ldn 3 (.env 61))), []), (.mk none (.env 63) (.mov (.mv (.slot 1))), []), (.mk none (.slot 6) (.eff (.alloc [(.int .i64 0), (.int .i64 0)])), [0, 1, 2, 3, 4, 5, 6, 7, 8, 9]), (.mk none (.env 64) (.call 54 [(.env 58), (.env 62), (.env 63)]), [10]), (.mk none (.env 53) (.mov (.mv (.env 64))), []), (.mk none (.env 65) (.mov (.ext 0 (.env 53))), []), (.mk none (.env 66) (.mov (.ext 1 (.env 53))), []), (.mk none .none (.eff (.store 2 (.slot 6) (.env 65))), [14]), (.mk none (.slot 7) (.mov (.mv (.env 66))), [])]) (.seq (.reg [.mk none (.env 67) (.mov (.ldn 2 (.slot 6))), .mk none (.env 68) (.mov (.mv (.slot 7))), .mk none (.env 69) (.mov (.bin .eql .no (.env 68) (.const (.int .i64 0)))), .mk none (.env 70) (.mov (.mv (.slot 7))), .mk none .none (.eff (.store 2 (.slot 2) (.env 67))), .mk none (.slot 3) (.mov (.mv (.env 69))), .mk none (.slot 4) (.mov (.mv (.env 70)))]) .ret)) .skip)))) (.reg [.mk none (.env 18) (.mov (.mv (.slot 5))), .mk none (.env 19) (.mov (.bin .add .no (.env 18) (.const (.int .i64 1)))), .mk none (.slot 5) (.mov (.mv (.env 19)))])))))) (.seq (.reg [.mk none (.env 71) (.mov (.bld [(.int .i64 0), (.int .i64 0)] [])), .mk none .none (.eff (.store 2 (.slot 2) (.env 71))), .mk none (.slot 3) (.mov (.mv (.const (.bool false)))), .mk none (.slot 4) (.mov (.mv (.const (.int .i64 0))))]) .ret)))), [.celln 2 (.slot 2), .slot (.slot 3), .slot (.slot 4)]⟩
section
variable {X : Type} {E : Nat → Option (Ent X)}
structure QdT (E : Nat → Option (Ent X)) : Prop extends QcT E where
  sright : E 35 = some (.bc b_ref21Right)
  between : E 54 = some (.bc b_ref21Between)
  at' : E 36 = some (.bc b_ref21At)
set_option maxHeartbeats 2000000 in
theorem r21right_ok (hE : ∀ f e, E f = some e → e.plain) (T : QdT E) {h : Hp X} {v : AV} {l : List SM} (a : Ser h v l) : WF (lim E) 35 [v] h fun x h' => Keep NoB h h' ∧ ∃ b, x = .bool b ∧ (b = true ↔ RightS l) := by
  refine wf_bc hE T.sright rfl ?_
  simp only [b_ref21Right, List.map, getS]
  have hlen := a.len
  repeat first|(refine BG ?_;first|(refine BH ?_;first|(refine BI ?_;refine BM ?_)|(refine BJ ?_;first|refine BN ?_|refine BO ?_)|refine BP ?_)|(refine BK ?_;first|refine BS rfl rfl ?_|refine BT rfl rfl ?_|refine BU rfl ?_)|(refine BL ?_;first|refine BQ ?_)|(refine BR ?_;try simp only [setS]))|refine AA ?_|refine AC ?_|refine AD ?_|refine AE ?_|refine AF rfl rfl ?_|refine AG rfl rfl ?_|refine AH ?_|refine AI ?_|refine AJ ?_|refine AK ?_|refine AL ?_|refine AM ?_|refine AN ?_|refine AO ?_|refine AP ?_|refine AQ rfl ?_|refine AR ?_|refine AS ?_|refine AT rfl ?_|refine AU rfl ?_
  refine wb_loop (fun n t hh => ∃ (i : Nat) (s3 s4 : AV), i ≤ l.length ∧ n = l.length - i ∧ Keep NoB h hh ∧ (∀ (j : Nat) s, j < i → l[j]? = some s → SOK l j s) ∧ t = [v, .bool false, .int .i64 i, s3, s4]) ?_ l.length _ _ ⟨0, _, _, by omega, by omega, Keep.refl _ _, by omega, rfl⟩
  rintro n t hh ⟨i, s3, s4, hi, hm, K, hok, rfl⟩
  have a1 := a.up K
  by_cases hlt : i < l.length
  · obtain ⟨s, hs⟩ : ∃ s, l[i]? = some s := ⟨_, List.getElem?_eq_getElem hlt⟩
    obtain ⟨hst, hsq⟩ := a.row s (List.mem_of_getElem? hs)
    obtain ⟨g, o, c0, c1, c2, c3⟩ := a1.rs.atS hs
    have kr := Keep.refl (NoB) (hh : Hp X)
    have no : ∀ {P : Prop}, ¬ P → (SOK l i s → P) → ((false : Bool) = true ↔ RightS l) := fun hp hq => ⟨fun q => (by cases q), fun r => absurd (hq (r i s hs)) hp⟩
    by_cases h0 : s.t < 0
    · repeat first|(refine BG ?_;first|(refine BH ?_;first|(refine BI ?_;refine BM ?_)|(refine BJ ?_;first|refine BN ?_|refine BO ?_)|refine BV (a1.rs.lenv (by rfl)) ?_|refine BP ?_)|(refine BK ?_;first|refine BS rfl rfl ?_|refine BT rfl rfl ?_|refine BU rfl ?_)|(refine BL ?_;first|refine BQ ?_)|(refine BR ?_;try simp only [setS]))|refine AA ?_|refine AC ?_|refine AD ?_|refine AF rfl rfl ?_|refine AG rfl rfl ?_|refine AH ?_|refine AI ?_|refine AJ ?_|refine AK ?_|refine AL ?_|refine AM ?_|refine AN ?_|refine AO ?_|refine AP ?_|refine AQ rfl ?_|refine AR ?_|refine AS ?_|refine AT rfl ?_|refine AU rfl ?_
      repeat first|(refine BG ?_;first|(refine BH ?_;first|(refine BI ?_;refine BM ?_)|(refine BJ ?_;first|refine BN ?_|refine BO ?_)|refine BV (c0 rfl rfl) ?_|refine BV (c1 kr rfl) ?_|refine BP ?_)|(refine BK ?_;first|refine BS rfl rfl ?_|refine BT rfl rfl ?_|refine BU rfl ?_)|(refine BL ?_;first|refine BQ ?_)|(refine BR ?_;try simp only [setS]))|(refine BX ?_;first|refine BY rfl ?_|refine (wd_gq rfl) ?_|(refine BZ ?_;refine CA ?_)|refine CB (c0 rfl rfl) ?_|refine CB (c1 kr rfl) ?_|refine CC ?_|(refine CD ?_;try simp only [setS]))|refine AA ?_|refine AC ?_|refine AD ?_|refine AE ?_|refine AF rfl rfl ?_|refine AG rfl rfl ?_|refine AH ?_|refine AI ?_|refine AJ ?_|refine AK ?_|refine AL ?_|refine AM ?_|refine AN ?_|refine AO ?_|refine AP ?_|refine AQ rfl ?_|refine AR ?_|refine AS ?_|refine AT rfl ?_|refine AU rfl ?_
      exact ⟨K, false, rfl, no (by omega : ¬ 0 ≤ s.t) (fun q => q.t0)⟩
    by_cases h1 : (4294967295 : Int) < s.t
    · repeat first|(refine BG ?_;first|(refine BH ?_;first|(refine BI ?_;refine BM ?_)|(refine BJ ?_;first|refine BN ?_|refine BO ?_)|refine BV (a1.rs.lenv (by rfl)) ?_|refine BP ?_)|(refine BK ?_;first|refine BS rfl rfl ?_|refine BT rfl rfl ?_|refine BU rfl ?_)|(refine BL ?_;first|refine BQ ?_)|(refine BR ?_;try simp only [setS]))|refine AA ?_|refine AC ?_|refine AD ?_|refine AF rfl rfl ?_|refine AG rfl rfl ?_|refine AH ?_|refine AI ?_|refine AJ ?_|refine AK ?_|refine AL ?_|refine AM ?_|refine AN ?_|refine AO ?_|refine AP ?_|refine AQ rfl ?_|refine AR ?_|refine AS ?_|refine AT rfl ?_|refine AU rfl ?_
      repeat first|(refine BG ?_;first|(refine BH ?_;first|(refine BI ?_;refine BM ?_)|(refine BJ ?_;first|refine BN ?_|refine BO ?_)|refine BV (c0 rfl rfl) ?_|refine BV (c1 kr rfl) ?_|refine BP ?_)|(refine BK ?_;first|refine BS rfl rfl ?_|refine BT rfl rfl ?_|refine BU rfl ?_)|(refine BL ?_;first|refine BQ ?_)|(refine BR ?_;try simp only [setS]))|(refine BX ?_;first|refine BY rfl ?_|refine (wd_gq rfl) ?_|(refine BZ ?_;refine CA ?_)|refine CB (c0 rfl rfl) ?_|refine CB (c1 kr rfl) ?_|refine CC ?_|(refine CD ?_;try simp only [setS]))|refine AA ?_|refine AC ?_|refine AD ?_|refine AE ?_|refine AF rfl rfl ?_|refine AG rfl rfl ?_|refine AH ?_|refine AI ?_|refine AJ ?_|refine AK ?_|refine AL ?_|refine AM ?_|refine AN ?_|refine AO ?_|refine AP ?_|refine AQ rfl ?_|refine AR ?_|refine AS ?_|refine AT rfl ?_|refine AU rfl ?_
      exact ⟨K, false, rfl, no (by omega : ¬ s.t ≤ 4294967295) (fun q => q.t1)⟩
    repeat first|(refine BG ?_;first|(refine BH ?_;first|(refine BI ?_;refine BM ?_)|(refine BJ ?_;first|refine BN ?_|refine BO ?_)|refine BV (a1.rs.lenv (by rfl)) ?_|refine BP ?_)|(refine BK ?_;first|refine BS rfl rfl ?_|refine BT rfl rfl ?_|refine BU rfl ?_)|(refine BL ?_;first|refine BQ ?_)|(refine BR ?_;try simp only [setS]))|refine AA ?_|refine AC ?_|refine AD ?_|refine AF rfl rfl ?_|refine AG rfl rfl ?_|refine AH ?_|refine AI ?_|refine AJ ?_|refine AK ?_|refine AL ?_|refine AM ?_|refine AN ?_|refine AO ?_|refine AP ?_|refine AQ rfl ?_|refine AR ?_|refine AS ?_|refine AT rfl ?_|refine AU rfl ?_
    repeat first|(refine BG ?_;first|(refine BH ?_;first|(refine BI ?_;refine BM ?_)|(refine BJ ?_;first|refine BN ?_|refine BO ?_)|refine BV (c0 rfl rfl) ?_|refine BV (c1 kr rfl) ?_|refine BV (c2 kr rfl) ?_|refine BP ?_)|(refine BK ?_;first|refine BS rfl rfl ?_|refine BT rfl rfl ?_|refine BU rfl ?_)|(refine BL ?_;first|refine BQ ?_)|(refine BR ?_;try simp only [setS]))|(refine BX ?_;first|refine BY rfl ?_|(refine BZ ?_;refine CA ?_)|refine CB (c0 rfl rfl) ?_|refine CB (c1 kr rfl) ?_|refine CB (c2 kr rfl) ?_|refine CC ?_|(refine CD ?_;try simp only [setS]))|refine AA ?_|refine AC ?_|refine AD ?_|refine AE ?_|refine AF rfl rfl ?_|refine AG rfl rfl ?_|refine AH ?_|refine AI ?_|refine AJ ?_|refine AK ?_|refine AL ?_|refine AM ?_|refine AN ?_|refine AO ?_|refine AP ?_|refine AQ rfl ?_|refine AR ?_|refine AS ?_|refine AT rfl ?_|refine AU rfl ?_
    refine wd_calls_e rfl ((rright_ok hE T.r hsq).mono fun x h4 ⟨k4, e4⟩ => ?_)
    subst e4
    refine ⟨chk_nil, ?_⟩
    have K4 := K.and k4
    rcases Bool.eq_false_or_eq_true (rightF s.q) with hr | hr
    case' inr =>
      rw [hr]
      repeat first|(refine BG ?_;first|(refine BH ?_;first|(refine BI ?_;refine BM ?_)|(refine BJ ?_;first|refine BN ?_|refine BO ?_)|refine BV (v_notb rfl) ?_|refine BP ?_)|(refine BK ?_;first|refine BS rfl rfl ?_|refine BT rfl rfl ?_|refine BU rfl ?_)|(refine BL ?_;first|refine BQ ?_)|(refine BR ?_;try simp only [setS]))|(refine BX ?_;first|refine BY rfl ?_|refine (wd_gq rfl) ?_|(refine BZ ?_;refine CA ?_)|refine CB (v_notb rfl) ?_|refine CC ?_|(refine CD ?_;try simp only [setS]))|refine AA ?_|refine AC ?_|refine AD ?_|refine AE ?_|refine AF rfl rfl ?_|refine AG rfl rfl ?_|refine AH ?_|refine AI ?_|refine AJ ?_|refine AK ?_|refine AL ?_|refine AM ?_|refine AN ?_|refine AO ?_|refine AP ?_|refine AQ rfl ?_|refine AR ?_|refine AS ?_|refine AT rfl ?_|refine AU rfl ?_
      exact ⟨K4, false, rfl, no (by rw [hr]; decide : ¬ rightF s.q = true) (fun q => q.q)⟩
    rw [hr]
    rcases Nat.eq_zero_or_pos i with hi0 | hi0
    · subst hi0
      repeat first|(refine BG ?_;first|(refine BH ?_;first|(refine BI ?_;refine BM ?_)|(refine BJ ?_;first|refine BN ?_|refine BO ?_)|refine BV (v_notb rfl) ?_|refine BP ?_)|(refine BK ?_;first|refine BS rfl rfl ?_|refine BT rfl rfl ?_|refine BU rfl ?_)|(refine BL ?_;first|refine BQ ?_)|(refine BR ?_;try simp only [setS]))|(refine BX ?_;first|refine BY rfl ?_|refine (wd_gq rfl) ?_|(refine BZ ?_;refine CA ?_)|refine CB (v_notb rfl) ?_|refine CC ?_|(refine CD ?_;try simp only [setS]))|refine AA ?_|refine AC ?_|refine AD ?_|refine AE ?_|refine AF rfl rfl ?_|refine AG rfl rfl ?_|refine AH ?_|refine AI ?_|refine AJ ?_|refine AK ?_|refine AL ?_|refine AM ?_|refine AN ?_|refine AO ?_|refine AP ?_|refine AQ rfl ?_|refine AR ?_|refine AS ?_|refine AT rfl ?_|refine AU rfl ?_
      rw [show (((0 : Nat) : Int) + 1) = ((0 + 1 : Nat) : Int) by omega]
      refine round_norm (n - 1) (by omega) ⟨0 + 1, _, _, by omega, by omega, K4, fun j s' h5 h6 => ?_, rfl⟩
      obtain rfl : j = 0 := by omega
      rw [hs] at h6; cases h6
      exact ⟨by omega, by omega, hr, fun p hp => absurd hp (Nat.lt_irrefl _)⟩
    · obtain ⟨m, rfl⟩ : ∃ m, i = m + 1 := ⟨i - 1, by omega⟩
      obtain ⟨p, hp⟩ : ∃ p, l[m]? = some p := ⟨_, List.getElem?_eq_getElem (by omega)⟩
      obtain ⟨g', o', d0, d1, d2, d3⟩ := a1.rs.atS hp
      by_cases hup : p.t < s.t
      · repeat first|(refine BG ?_;first|(refine BH ?_;first|(refine BI ?_;refine BM ?_)|(refine BJ ?_;first|refine BN ?_|refine BO ?_)|refine BV (v_notb rfl) ?_|refine BV (v_pred rfl rfl (by omega)) ?_|refine BV (d0 rfl rfl) ?_|refine BV (d1 k4 rfl) ?_|refine BV (c0 rfl rfl) ?_|refine BV (c1 k4 rfl) ?_|refine BP ?_)|(refine BK ?_;first|refine BS rfl rfl ?_|refine BT rfl rfl ?_|refine BU rfl ?_)|(refine BL ?_;first|refine BQ ?_)|(refine BR ?_;try simp only [setS]))|(refine BX ?_;first|refine BY rfl ?_|(refine BZ ?_;refine CA ?_)|refine CB (v_notb rfl) ?_|refine CB (v_pred rfl rfl (by omega)) ?_|refine CB (d0 rfl rfl) ?_|refine CB (d1 k4 rfl) ?_|refine CB (c0 rfl rfl) ?_|refine CB (c1 k4 rfl) ?_|refine CC ?_|(refine CD ?_;try simp only [setS]))|refine AA ?_|refine AC ?_|refine AD ?_|refine AE ?_|refine AF rfl rfl ?_|refine AG rfl rfl ?_|refine AH ?_|refine AI ?_|refine AJ ?_|refine AK ?_|refine AL ?_|refine AM ?_|refine AN ?_|refine AO ?_|refine AP ?_|refine AQ rfl ?_|refine AR ?_|refine AS ?_|refine AT rfl ?_|refine AU rfl ?_
        rw [show (((m + 1 : Nat) : Int) + 1) = ((m + 1 + 1 : Nat) : Int) by omega]
        refine round_norm (n - 1) (by omega) ⟨m + 1 + 1, _, _, by omega, by omega, K4, fun j s' h5 h6 => ?_, rfl⟩
        by_cases hj : j = m + 1
        · subst hj
          rw [hs] at h6; cases h6
          refine ⟨by omega, by omega, hr, fun p' _ hp' => ?_⟩
          rw [Nat.add_sub_cancel, hp] at hp'; cases hp'; exact hup
        · exact hok j s' (by omega) h6
      · repeat first|(refine BG ?_;first|(refine BH ?_;first|(refine BI ?_;refine BM ?_)|(refine BJ ?_;first|refine BN ?_|refine BO ?_)|refine BV (v_notb rfl) ?_|refine BV (v_pred rfl rfl (by omega)) ?_|refine BV (d0 rfl rfl) ?_|refine BV (d1 k4 rfl) ?_|refine BV (c0 rfl rfl) ?_|refine BV (c1 k4 rfl) ?_|refine BP ?_)|(refine BK ?_;first|refine BS rfl rfl ?_|refine BT rfl rfl ?_|refine BU rfl ?_)|(refine BL ?_;first|refine BQ ?_)|(refine BR ?_;try simp only [setS]))|(refine BX ?_;first|refine BY rfl ?_|(refine BZ ?_;refine CA ?_)|refine CB (v_notb rfl) ?_|refine CB (v_pred rfl rfl (by omega)) ?_|refine CB (d0 rfl rfl) ?_|refine CB (d1 k4 rfl) ?_|refine CB (c0 rfl rfl) ?_|refine CB (c1 k4 rfl) ?_|refine CC ?_|(refine CD ?_;try simp only [setS]))|refine AA ?_|refine AC ?_|refine AD ?_|refine AE ?_|refine AF rfl rfl ?_|refine AG rfl rfl ?_|refine AH ?_|refine AI ?_|refine AJ ?_|refine AK ?_|refine AL ?_|refine AM ?_|refine AN ?_|refine AO ?_|refine AP ?_|refine AQ rfl ?_|refine AR ?_|refine AS ?_|refine AT rfl ?_|refine AU rfl ?_
        exact ⟨K4, false, rfl, no hup (fun q => q.up p (by omega) (by rw [Nat.add_sub_cancel]; exact hp))⟩
  · repeat first|(refine BG ?_;first|(refine BH ?_;first|(refine BI ?_;refine BM ?_)|(refine BJ ?_;first|refine BN ?_|refine BO ?_)|refine BV (a1.rs.lenv (by rfl)) ?_|refine BP ?_)|(refine BK ?_;first|refine BS rfl rfl ?_|refine BT rfl rfl ?_|refine BU rfl ?_)|(refine BL ?_;first|refine BQ ?_)|(refine BR ?_;try simp only [setS]))|refine AA ?_|refine AC ?_|refine AD ?_|refine AE ?_|refine AF rfl rfl ?_|refine AG rfl rfl ?_|refine AH ?_|refine AI ?_|refine AJ ?_|refine AK ?_|refine AL ?_|refine AM ?_|refine AN ?_|refine AO ?_|refine AP ?_|refine AQ rfl ?_|refine AR ?_|refine AS ?_|refine AT rfl ?_|refine AU rfl ?_
    exact ⟨K, true, rfl, fun _ => fun j s hs => hok j s (by have := (List.getElem?_eq_some_iff.1 hs).1; omega) hs, fun _ => rfl⟩
set_option maxHeartbeats 2000000 in
theorem r21between_ok (hE : ∀ f e, E f = some e → e.plain) (T : QdT E) {h : Hp X} {a b : SM} {t0 : Int} (ha : I64Q a.q) (hb : I64Q b.q) (hat : 0 ≤ a.t ∧ a.t ≤ 4294967295) (hbt : 0 ≤ b.t ∧ b.t ≤ 4294967295) :
    WF (lim E) 54 [.agg (sc a), .agg (sc b), .int .i64 t0] h fun x h' => Keep NoB h h' ∧ x = qe (betF a b t0) := by
  refine wf_bc hE T.between rfl ?_
  simp only [b_ref21Between, List.map, getS]
  obtain ⟨bA, bB, bC, kp, hn3⟩ := box3 h (sc a) (sc b) [.int .i64 0, .int .i64 0]
  have ho : ∀ {s : SM}, allOne (sc s) = true := fun {s} => rfl
  have hC : ((h.push (.rw (sc a))).push (.rw (sc b))).n = h.n + 2 := rfl
  have hBn : (h.push (.rw (sc a))).n = h.n + 1 := rfl
  have fin0 : ∀ {hh : Hp X} (K : Keep NoB h hh) {q : QQ}, Keep NoB h (hh.put ((h.push (.rw (sc a))).push (.rw (sc b))).n (.rw [.int .i64 q.1, .int .i64 q.2])) := fun {hh} K {q} =>
    K.own (Keep.put _ _ _ (S := OneB (((h.push (.rw (sc a))).push (.rw (sc b))).n)) rfl) (fun k q => by have q : k = h.n + 2 := q; omega)
  repeat first|(refine BG ?_;first|(refine BH ?_;first|(refine BI ?_;refine BM ?_)|(refine BJ ?_;first|refine BN ?_|refine BO ?_)|refine BP ?_)|(refine BK ?_;first|refine BS rfl rfl ?_|refine BT rfl rfl ?_|refine BU rfl ?_)|(refine BL ?_;first|refine BW (ef_box rfl ho) ?_|refine BQ ?_)|(refine BR ?_;try simp only [setS]))|refine AA ?_|refine AC ?_|refine AD ?_|refine AE ?_|refine AF rfl rfl ?_|refine AG rfl rfl ?_|refine AH ?_|refine AI ?_|refine AJ ?_|refine AK ?_|refine AL ?_|refine AM ?_|refine AN ?_|refine AO ?_|refine AP ?_|refine AQ rfl ?_|refine AR ?_|refine AS ?_|refine AT rfl ?_|refine AU rfl ?_
  generalize ((h.push (.rw (sc a))).push (.rw (sc b))).push (.rw [.int .i64 0, .int .i64 0]) = h3 at *
  have z2 : (1 : Nat) + 2 ≤ 3 := by decide
  by_cases c1 : b.t ≤ a.t
  · have e : betF a b t0 = ((0, 0), 1) := by unfold betF; rw [if_pos (.inl c1)]
    rw [e]
    repeat first|(refine BG ?_;first|(refine BH ?_;first|(refine BI ?_;refine BM ?_)|(refine BJ ?_;first|refine BN ?_|refine BO ?_)|refine BV (v_bx bA rfl rfl) ?_|refine BV (v_bx bB rfl rfl) ?_|refine BP ?_)|(refine BK ?_;first|refine BS rfl rfl ?_|refine BT rfl rfl ?_|refine BU rfl ?_)|(refine BL ?_;first|refine BW (ef_bxn bC rfl rfl rfl rfl (Nat.le_refl _)) ?_|refine BQ ?_)|(refine BR ?_;try simp only [setS]))|refine AA ?_|refine AC ?_|refine AD ?_|refine AE ?_|refine AF rfl rfl ?_|refine AG rfl rfl ?_|refine AH ?_|refine AI ?_|refine AJ ?_|refine AK ?_|refine AL ?_|refine AM ?_|refine AN ?_|refine AO ?_|refine AP ?_|refine AQ rfl ?_|refine AR ?_|refine AS ?_|refine AT rfl ?_|refine AU rfl ?_
    exact fin_q (q := (0, 0)) (er := 1) bC.put rfl rfl ⟨fin0 kp (q := (0, 0)), rfl⟩
  by_cases c2 : t0 < a.t
  · have e : betF a b t0 = ((0, 0), 1) := by unfold betF; rw [if_pos (.inr (.inl c2))]
    rw [e]
    repeat first|(refine BG ?_;first|(refine BH ?_;first|(refine BI ?_;refine BM ?_)|(refine BJ ?_;first|refine BN ?_|refine BO ?_)|refine BV (v_bx bA rfl rfl) ?_|refine BV (v_bx bB rfl rfl) ?_|refine BP ?_)|(refine BK ?_;first|refine BS rfl rfl ?_|refine BT rfl rfl ?_|refine BU rfl ?_)|(refine BL ?_;first|refine BW (ef_bxn bC rfl rfl rfl rfl (Nat.le_refl _)) ?_|refine BQ ?_)|(refine BR ?_;try simp only [setS]))|refine AA ?_|refine AC ?_|refine AD ?_|refine AE ?_|refine AF rfl rfl ?_|refine AG rfl rfl ?_|refine AH ?_|refine AI ?_|refine AJ ?_|refine AK ?_|refine AL ?_|refine AM ?_|refine AN ?_|refine AO ?_|refine AP ?_|refine AQ rfl ?_|refine AR ?_|refine AS ?_|refine AT rfl ?_|refine AU rfl ?_
    exact fin_q (q := (0, 0)) (er := 1) bC.put rfl rfl ⟨fin0 kp (q := (0, 0)), rfl⟩
  by_cases c3 : b.t < t0
  · have e : betF a b t0 = ((0, 0), 1) := by unfold betF; rw [if_pos (.inr (.inr (.inl c3)))]
    rw [e]
    repeat first|(refine BG ?_;first|(refine BH ?_;first|(refine BI ?_;refine BM ?_)|(refine BJ ?_;first|refine BN ?_|refine BO ?_)|refine BV (v_bx bA rfl rfl) ?_|refine BV (v_bx bB rfl rfl) ?_|refine BP ?_)|(refine BK ?_;first|refine BS rfl rfl ?_|refine BT rfl rfl ?_|refine BU rfl ?_)|(refine BL ?_;first|refine BW (ef_bxn bC rfl rfl rfl rfl (Nat.le_refl _)) ?_|refine BQ ?_)|(refine BR ?_;try simp only [setS]))|refine AA ?_|refine AC ?_|refine AD ?_|refine AE ?_|refine AF rfl rfl ?_|refine AG rfl rfl ?_|refine AH ?_|refine AI ?_|refine AJ ?_|refine AK ?_|refine AL ?_|refine AM ?_|refine AN ?_|refine AO ?_|refine AP ?_|refine AQ rfl ?_|refine AR ?_|refine AS ?_|refine AT rfl ?_|refine AU rfl ?_
    exact fin_q (q := (0, 0)) (er := 1) bC.put rfl rfl ⟨fin0 kp (q := (0, 0)), rfl⟩
  repeat first|(refine BG ?_;first|(refine BH ?_;first|(refine BI ?_;refine BM ?_)|(refine BJ ?_;first|refine BN ?_|refine BO ?_)|refine BV (v_bx bA rfl rfl) ?_|refine BV (v_bx bB rfl rfl) ?_|refine BV (v_bxn bA rfl z2) ?_|refine BP ?_)|(refine BK ?_;first|refine BS rfl rfl ?_|refine BT rfl rfl ?_|refine BU rfl ?_)|(refine BL ?_;first|refine BQ ?_)|(refine BR ?_;try simp only [setS]))|refine AA ?_|refine AC ?_|refine AD ?_|refine AE ?_|refine AF rfl rfl ?_|refine AG rfl rfl ?_|refine AH ?_|refine AI ?_|refine AJ ?_|refine AK ?_|refine AL ?_|refine AM ?_|refine AN ?_|refine AO ?_|refine AP ?_|refine AQ rfl ?_|refine AR ?_|refine AS ?_|refine AT rfl ?_|refine AU rfl ?_
  refine wr_call_e rfl ((rright_ok hE T.r ha).mono fun x h4 ⟨k4, e4⟩ => ?_)
  subst e4
  have bA := bA.up k4
  have bB := bB.up k4
  have bC := bC.up k4
  have K4 := kp.and k4
  rcases Bool.eq_false_or_eq_true (rightF a.q) with hra | hra
  case' inr =>
    have e : betF a b t0 = ((0, 0), 1) := by unfold betF; rw [if_pos (.inr (.inr (.inr (.inl hra))))]
    rw [e, hra]
    repeat first|(refine BG ?_;first|(refine BH ?_;first|(refine BI ?_;refine BM ?_)|(refine BJ ?_;first|refine BN ?_|refine BO ?_)|refine BV (v_notb rfl) ?_|refine BP ?_)|(refine BK ?_;first|refine BS rfl rfl ?_|refine BT rfl rfl ?_|refine BU rfl ?_)|(refine BL ?_;first|refine BW (ef_bxn bC rfl rfl rfl rfl (Nat.le_refl _)) ?_|refine BQ ?_)|(refine BR ?_;try simp only [setS]))|refine AA ?_|refine AC ?_|refine AD ?_|refine AE ?_|refine AF rfl rfl ?_|refine AG rfl rfl ?_|refine AH ?_|refine AI ?_|refine AJ ?_|refine AK ?_|refine AL ?_|refine AM ?_|refine AN ?_|refine AO ?_|refine AP ?_|refine AQ rfl ?_|refine AR ?_|refine AS ?_|refine AT rfl ?_|refine AU rfl ?_
    exact fin_q (q := (0, 0)) (er := 1) bC.put rfl rfl ⟨fin0 K4 (q := (0, 0)), rfl⟩
  rw [hra]
  repeat first|(refine BG ?_;first|(refine BH ?_;first|(refine BI ?_;refine BM ?_)|(refine BJ ?_;first|refine BN ?_|refine BO ?_)|refine BV (v_notb rfl) ?_|refine BV (v_bxn bB rfl z2) ?_|refine BP ?_)|(refine BK ?_;first|refine BS rfl rfl ?_|refine BT rfl rfl ?_|refine BU rfl ?_)|(refine BL ?_;first|refine BQ ?_)|(refine BR ?_;try simp only [setS]))|refine AA ?_|refine AC ?_|refine AD ?_|refine AE ?_|refine AF rfl rfl ?_|refine AG rfl rfl ?_|refine AH ?_|refine AI ?_|refine AJ ?_|refine AK ?_|refine AL ?_|refine AM ?_|refine AN ?_|refine AO ?_|refine AP ?_|refine AQ rfl ?_|refine AR ?_|refine AS ?_|refine AT rfl ?_|refine AU rfl ?_
  refine wr_call_e rfl ((rright_ok hE T.r hb).mono fun x h5 ⟨k5, e5⟩ => ?_)
  subst e5
  have bA := bA.up k5
  have bB := bB.up k5
  have bC := bC.up k5
  have K5 := K4.and k5
  rcases Bool.eq_false_or_eq_true (rightF b.q) with hrb | hrb
  case' inr =>
    have e : betF a b t0 = ((0, 0), 1) := by unfold betF; rw [if_pos (.inr (.inr (.inr (.inr hrb))))]
    rw [e, hrb]
    repeat first|(refine BG ?_;first|(refine BH ?_;first|(refine BI ?_;refine BM ?_)|(refine BJ ?_;first|refine BN ?_|refine BO ?_)|refine BV (v_notb rfl) ?_|refine BP ?_)|(refine BK ?_;first|refine BS rfl rfl ?_|refine BT rfl rfl ?_|refine BU rfl ?_)|(refine BL ?_;first|refine BW (ef_bxn bC rfl rfl rfl rfl (Nat.le_refl _)) ?_|refine BQ ?_)|(refine BR ?_;try simp only [setS]))|refine AA ?_|refine AC ?_|refine AD ?_|refine AE ?_|refine AF rfl rfl ?_|refine AG rfl rfl ?_|refine AH ?_|refine AI ?_|refine AJ ?_|refine AK ?_|refine AL ?_|refine AM ?_|refine AN ?_|refine AO ?_|refine AP ?_|refine AQ rfl ?_|refine AR ?_|refine AS ?_|refine AT rfl ?_|refine AU rfl ?_
    exact fin_q (q := (0, 0)) (er := 1) bC.put rfl rfl ⟨fin0 K5 (q := (0, 0)), rfl⟩
  rw [hrb]
  have nb : ¬ (b.t ≤ a.t ∨ t0 < a.t ∨ b.t < t0 ∨ rightF a.q = false ∨ rightF b.q = false) := by
    rintro (q | q | q | q | q)
    · exact c1 q
    · exact c2 q
    · exact c3 q
    · rw [hra] at q; cases q
    · rw [hrb] at q; cases q
  by_cases c4 : t0 = a.t
  · have e : betF a b t0 = (a.q, 0) := by unfold betF; rw [if_neg nb, if_pos c4]
    rw [e]
    repeat first|(refine BG ?_;first|(refine BH ?_;first|(refine BI ?_;refine BM ?_)|(refine BJ ?_;first|refine BN ?_|refine BO ?_)|refine BV (v_notb rfl) ?_|refine BV (v_bx bA rfl rfl) ?_|refine BV (v_bxn bA rfl z2) ?_|refine BP ?_)|(refine BK ?_;first|refine BS rfl rfl ?_|refine BT rfl rfl ?_|refine BU rfl ?_)|(refine BL ?_;first|refine BW (ef_bxn bC rfl rfl rfl rfl (Nat.le_refl _)) ?_|refine BQ ?_)|(refine BR ?_;try simp only [setS]))|refine AA ?_|refine AC ?_|refine AD ?_|refine AE ?_|refine AF rfl rfl ?_|refine AG rfl rfl ?_|refine AH ?_|refine AI ?_|refine AJ ?_|refine AK ?_|refine AL ?_|refine AM ?_|refine AN ?_|refine AO ?_|refine AP ?_|refine AQ rfl ?_|refine AR ?_|refine AS ?_|refine AT rfl ?_|refine AU rfl ?_
    exact fin_q (q := a.q) (er := 0) bC.put rfl rfl ⟨fin0 K5 (q := a.q), rfl⟩
  by_cases c5 : t0 = b.t
  · have e : betF a b t0 = (b.q, 0) := by unfold betF; rw [if_neg nb, if_neg c4, if_pos c5]
    rw [e]
    repeat first|(refine BG ?_;first|(refine BH ?_;first|(refine BI ?_;refine BM ?_)|(refine BJ ?_;first|refine BN ?_|refine BO ?_)|refine BV (v_notb rfl) ?_|refine BV (v_bx bA rfl rfl) ?_|refine BV (v_bx bB rfl rfl) ?_|refine BV (v_bxn bB rfl z2) ?_|refine BP ?_)|(refine BK ?_;first|refine BS rfl rfl ?_|refine BT rfl rfl ?_|refine BU rfl ?_)|(refine BL ?_;first|refine BW (ef_bxn bC rfl rfl rfl rfl (Nat.le_refl _)) ?_|refine BQ ?_)|(refine BR ?_;try simp only [setS]))|refine AA ?_|refine AC ?_|refine AD ?_|refine AE ?_|refine AF rfl rfl ?_|refine AG rfl rfl ?_|refine AH ?_|refine AI ?_|refine AJ ?_|refine AK ?_|refine AL ?_|refine AM ?_|refine AN ?_|refine AO ?_|refine AP ?_|refine AQ rfl ?_|refine AR ?_|refine AS ?_|refine AT rfl ?_|refine AU rfl ?_
    exact fin_q (q := b.q) (er := 0) bC.put rfl rfl ⟨fin0 K5 (q := b.q), rfl⟩
  have eb : betF a b t0 = if (subF b.q a.q).2 ≠ 0 then ((0, 0), (subF b.q a.q).2)
      else if (newF (t0 - a.t) (b.t - a.t)).2 ≠ 0 then ((0, 0), (newF (t0 - a.t) (b.t - a.t)).2)
      else if (mulF (subF b.q a.q).1 (newF (t0 - a.t) (b.t - a.t)).1).2 ≠ 0 then ((0, 0), (mulF (subF b.q a.q).1 (newF (t0 - a.t) (b.t - a.t)).1).2)
      else addF (mulF (subF b.q a.q).1 (newF (t0 - a.t) (b.t - a.t)).1).1 a.q := by unfold betF; rw [if_neg nb, if_neg c4, if_neg c5]
  rw [eb]
  repeat first|(refine BG ?_;first|(refine BH ?_;first|(refine BI ?_;refine BM ?_)|(refine BJ ?_;first|refine BN ?_|refine BO ?_)|refine BV (v_notb rfl) ?_|refine BV (v_bx bA rfl rfl) ?_|refine BV (v_bx bB rfl rfl) ?_|refine BV (v_bxn bA rfl z2) ?_|refine BV (v_bxn bB rfl z2) ?_|refine BP ?_)|(refine BK ?_;first|refine BS rfl rfl ?_|refine BT rfl rfl ?_|refine BU rfl ?_)|(refine BL ?_;first|refine BQ ?_)|(refine BR ?_;try simp only [setS]))|refine AA ?_|refine AC ?_|refine AD ?_|refine AE ?_|refine AF rfl rfl ?_|refine AG rfl rfl ?_|refine AH ?_|refine AI ?_|refine AJ ?_|refine AK ?_|refine AL ?_|refine AM ?_|refine AN ?_|refine AO ?_|refine AP ?_|refine AQ rfl ?_|refine AR ?_|refine AS ?_|refine AT rfl ?_|refine AU rfl ?_
  refine wr_call_e rfl ((rop_ok hE T.r (a := b.q) (b := a.q) (k := 45) hb ha (.inr (.inl rfl))).mono fun x h6 ⟨k6, e6⟩ => ?_)
  subst e6
  rw [show opF 45 b.q a.q = subF b.q a.q from rfl]
  have lA6 := (bA.up k6).lt
  have lC6 := (bC.up k6).lt
  have bA := bA.up k6
  have bB := bB.up k6
  have bC := bC.up k6
  have K6 := K5.and k6
  have i6 := subF_i64 b.q a.q
  generalize subF b.q a.q = r6 at *
  obtain ⟨⟨n6, m6⟩, er6⟩ := r6
  have bD : Bx (h6.push (.rw [.int .i64 0, .int .i64 0])) h6.n [.int .i64 0, .int .i64 0] := bx_push
  have k7a : Keep NoB h6 (h6.push (.rw [.int .i64 0, .int .i64 0])) := Keep.push _ _ _
  repeat first|(refine BG ?_;first|(refine BH ?_;first|(refine BI ?_;refine BM ?_)|(refine BJ ?_;first|refine BN ?_|refine BO ?_)|refine BP ?_)|(refine BK ?_;first|refine BS rfl rfl ?_|refine BT rfl rfl ?_|refine BU rfl ?_)|(refine BL ?_;first|refine BW (ef_bxn bD rfl rfl rfl rfl (Nat.le_refl _)) ?_|refine BQ ?_)|(refine BR ?_;try simp only [setS]))|refine AA ?_|refine AC ?_|refine AD ?_|refine AE ?_|refine AF rfl rfl ?_|refine AG rfl rfl ?_|refine AH ?_|refine AI ?_|refine AJ ?_|refine AK ?_|refine AL ?_|refine AM ?_|refine AN ?_|refine AO ?_|refine AP ?_|refine AQ rfl ?_|refine AR ?_|refine AS ?_|refine AT rfl ?_|refine AU rfl ?_
  refine wb_hq (h' := (h6.push (.rw [.int .i64 0, .int .i64 0])).put h6.n (.rw [.int .i64 n6, .int .i64 m6])) rfl ?_
  have k7 := k7a.own (Keep.put (h6.push (.rw [.int .i64 0, .int .i64 0])) h6.n (.rw [.int .i64 n6, .int .i64 m6]) (S := OneB h6.n) rfl) (fun k q => Nat.le_of_eq q.symm)
  have bD : Bx ((h6.push (.rw [.int .i64 0, .int .i64 0])).put h6.n (.rw [.int .i64 n6, .int .i64 m6])) h6.n [.int .i64 n6, .int .i64 m6] := bD.put
  have bA := bA.up k7
  have bB := bB.up k7
  have bC := bC.up k7
  have K7 := K6.and k7
  clear k7a
  generalize (h6.push (.rw [.int .i64 0, .int .i64 0])).put h6.n (.rw [.int .i64 n6, .int .i64 m6]) = h7 at *
  by_cases d6 : er6 = 0
  case' neg =>
    rw [if_pos d6, show (er6 != 0) = true by simp [d6]]
    repeat first|(refine BG ?_;first|(refine BH ?_;first|(refine BI ?_;refine BM ?_)|(refine BJ ?_;first|refine BN ?_|refine BO ?_)|refine BP ?_)|(refine BK ?_;first|refine BS rfl rfl ?_|refine BT rfl rfl ?_|refine BU rfl ?_)|(refine BL ?_;first|refine BW (ef_bxn bC rfl rfl rfl rfl (Nat.le_refl _)) ?_|refine BQ ?_)|(refine BR ?_;try simp only [setS]))|refine AA ?_|refine AC ?_|refine AD ?_|refine AE ?_|refine AF rfl rfl ?_|refine AG rfl rfl ?_|refine AH ?_|refine AI ?_|refine AJ ?_|refine AK ?_|refine AL ?_|refine AM ?_|refine AN ?_|refine AO ?_|refine AP ?_|refine AQ rfl ?_|refine AR ?_|refine AS ?_|refine AT rfl ?_|refine AU rfl ?_
    exact fin_q (q := (0, 0)) (er := er6) bC.put rfl rfl ⟨fin0 K7 (q := (0, 0)), rfl⟩
  subst d6
  rw [if_neg (by decide)]
  repeat first|(refine BG ?_;first|(refine BH ?_;first|(refine BI ?_;refine BM ?_)|(refine BJ ?_;first|refine BN ?_|refine BO ?_)|refine BV (v_bx bA rfl rfl) ?_|refine BV (v_bx bB rfl rfl) ?_|refine BP ?_)|(refine BK ?_;first|refine BS rfl rfl ?_|refine BT rfl rfl ?_|refine BU rfl ?_)|(refine BL ?_;first|refine BQ ?_)|(refine BR ?_;try simp only [setS]))|refine AA ?_|refine AC ?_|refine AD ?_|refine AE ?_|refine AF rfl rfl ?_|refine AG rfl rfl ?_|refine AH ?_|refine AI ?_|refine AJ ?_|refine AK ?_|refine AL ?_|refine AM ?_|refine AN ?_|refine AO ?_|refine AP ?_|refine AQ rfl ?_|refine AR ?_|refine AS ?_|refine AT rfl ?_|refine AU rfl ?_
  refine wr_call_e rfl ((rnew_ok hE T.r (n := t0 - a.t) (d := b.t - a.t) ⟨by omega, by omega⟩ ⟨by omega, by omega⟩).mono fun x h8 ⟨k8, e8⟩ => ?_)
  subst e8
  have bA := bA.up k8
  have bC := bC.up k8
  have bD := bD.up k8
  have K8 := K7.and k8
  have i8 := newF_i64 (t0 - a.t) (b.t - a.t)
  generalize newF (t0 - a.t) (b.t - a.t) = r8 at *
  obtain ⟨⟨n8, m8⟩, er8⟩ := r8
  have bE : Bx (h8.push (.rw [.int .i64 0, .int .i64 0])) h8.n [.int .i64 0, .int .i64 0] := bx_push
  have k9a : Keep NoB h8 (h8.push (.rw [.int .i64 0, .int .i64 0])) := Keep.push _ _ _
  repeat first|(refine BG ?_;first|(refine BH ?_;first|(refine BI ?_;refine BM ?_)|(refine BJ ?_;first|refine BN ?_|refine BO ?_)|refine BP ?_)|(refine BK ?_;first|refine BS rfl rfl ?_|refine BT rfl rfl ?_|refine BU rfl ?_)|(refine BL ?_;first|refine BW (ef_bxn bE rfl rfl rfl rfl (Nat.le_refl _)) ?_|refine BQ ?_)|(refine BR ?_;try simp only [setS]))|refine AA ?_|refine AC ?_|refine AD ?_|refine AE ?_|refine AF rfl rfl ?_|refine AG rfl rfl ?_|refine AH ?_|refine AI ?_|refine AJ ?_|refine AK ?_|refine AL ?_|refine AM ?_|refine AN ?_|refine AO ?_|refine AP ?_|refine AQ rfl ?_|refine AR ?_|refine AS ?_|refine AT rfl ?_|refine AU rfl ?_
  refine wb_hq (h' := (h8.push (.rw [.int .i64 0, .int .i64 0])).put h8.n (.rw [.int .i64 n8, .int .i64 m8])) rfl ?_
  have k9 := k9a.own (Keep.put (h8.push (.rw [.int .i64 0, .int .i64 0])) h8.n (.rw [.int .i64 n8, .int .i64 m8]) (S := OneB h8.n) rfl) (fun k q => Nat.le_of_eq q.symm)
  have bE : Bx ((h8.push (.rw [.int .i64 0, .int .i64 0])).put h8.n (.rw [.int .i64 n8, .int .i64 m8])) h8.n [.int .i64 n8, .int .i64 m8] := bE.put
  have bA := bA.up k9
  have bC := bC.up k9
  have bD := bD.up k9
  have K9 := K8.and k9
  clear k9a
  generalize (h8.push (.rw [.int .i64 0, .int .i64 0])).put h8.n (.rw [.int .i64 n8, .int .i64 m8]) = h9 at *
  by_cases d8 : er8 = 0
  case' neg =>
    rw [if_pos d8, show (er8 != 0) = true by simp [d8]]
    repeat first|(refine BG ?_;first|(refine BH ?_;first|(refine BI ?_;refine BM ?_)|(refine BJ ?_;first|refine BN ?_|refine BO ?_)|refine BP ?_)|(refine BK ?_;first|refine BS rfl rfl ?_|refine BT rfl rfl ?_|refine BU rfl ?_)|(refine BL ?_;first|refine BW (ef_bxn bC rfl rfl rfl rfl (Nat.le_refl _)) ?_|refine BQ ?_)|(refine BR ?_;try simp only [setS]))|refine AA ?_|refine AC ?_|refine AD ?_|refine AE ?_|refine AF rfl rfl ?_|refine AG rfl rfl ?_|refine AH ?_|refine AI ?_|refine AJ ?_|refine AK ?_|refine AL ?_|refine AM ?_|refine AN ?_|refine AO ?_|refine AP ?_|refine AQ rfl ?_|refine AR ?_|refine AS ?_|refine AT rfl ?_|refine AU rfl ?_
    exact fin_q (q := (0, 0)) (er := er8) bC.put rfl rfl ⟨fin0 K9 (q := (0, 0)), rfl⟩
  subst d8
  rw [if_neg (by decide)]
  repeat first|(refine BG ?_;first|(refine BH ?_;first|(refine BI ?_;refine BM ?_)|(refine BJ ?_;first|refine BN ?_|refine BO ?_)|refine BV (v_bxn bD rfl (Nat.le_refl _)) ?_|refine BV (v_bxn bE rfl (Nat.le_refl _)) ?_|refine BP ?_)|(refine BK ?_;first|refine BS rfl rfl ?_|refine BT rfl rfl ?_|refine BU rfl ?_)|(refine BL ?_;first|refine BQ ?_)|(refine BR ?_;try simp only [setS]))|refine AA ?_|refine AC ?_|refine AD ?_|refine AE ?_|refine AF rfl rfl ?_|refine AG rfl rfl ?_|refine AH ?_|refine AI ?_|refine AJ ?_|refine AK ?_|refine AL ?_|refine AM ?_|refine AN ?_|refine AO ?_|refine AP ?_|refine AQ rfl ?_|refine AR ?_|refine AS ?_|refine AT rfl ?_|refine AU rfl ?_
  refine wr_call_e rfl ((rop_ok hE T.r (a := (n6, m6)) (b := (n8, m8)) (k := 42) i6 i8 (.inr (.inr (.inl rfl)))).mono fun x h10 ⟨k10, e10⟩ => ?_)
  subst e10
  rw [show opF 42 (n6, m6) (n8, m8) = mulF (n6, m6) (n8, m8) from rfl]
  have bD := bD.up k10
  have bA := bA.up k10
  have bC := bC.up k10
  have K10 := K9.and k10
  have i10 := mulF_i64 (n6, m6) (n8, m8)
  try simp only
  generalize mulF (n6, m6) (n8, m8) = r10 at *
  obtain ⟨⟨n10, m10⟩, er10⟩ := r10
  repeat first|(refine BG ?_;first|(refine BH ?_;first|(refine BI ?_;refine BM ?_)|(refine BJ ?_;first|refine BN ?_|refine BO ?_)|refine BP ?_)|(refine BK ?_;first|refine BS rfl rfl ?_|refine BT rfl rfl ?_|refine BU rfl ?_)|(refine BL ?_;first|refine BW (ef_bxn bD rfl rfl rfl rfl (Nat.le_refl _)) ?_|refine BQ ?_)|(refine BR ?_;try simp only [setS]))|refine AA ?_|refine AC ?_|refine AD ?_|refine AE ?_|refine AF rfl rfl ?_|refine AG rfl rfl ?_|refine AH ?_|refine AI ?_|refine AJ ?_|refine AK ?_|refine AL ?_|refine AM ?_|refine AN ?_|refine AO ?_|refine AP ?_|refine AQ rfl ?_|refine AR ?_|refine AS ?_|refine AT rfl ?_|refine AU rfl ?_
  refine wb_hq (h' := h10.put h6.n (.rw [.int .i64 n10, .int .i64 m10])) rfl ?_
  have n6' := K6.n
  have k11 : Keep (OneB h6.n) h10 (h10.put h6.n (.rw [.int .i64 n10, .int .i64 m10])) := Keep.put _ _ _ rfl
  have bF : Bx (h10.put h6.n (.rw [.int .i64 n10, .int .i64 m10])) h6.n [.int .i64 n10, .int .i64 m10] := bD.put
  have bA := bA.keep k11 (fun q => by have q : h.n = h6.n := q; omega)
  have bC := bC.keep k11 (fun q => by have q : h.n + 2 = h6.n := q; omega)
  have K11 := K10.own k11 (fun k q => by have q : k = h6.n := q; omega)
  generalize h10.put h6.n (.rw [.int .i64 n10, .int .i64 m10]) = h11 at *
  by_cases d10 : er10 = 0
  case' neg =>
    rw [if_pos d10, show (er10 != 0) = true by simp [d10]]
    repeat first|(refine BG ?_;first|(refine BH ?_;first|(refine BI ?_;refine BM ?_)|(refine BJ ?_;first|refine BN ?_|refine BO ?_)|refine BP ?_)|(refine BK ?_;first|refine BS rfl rfl ?_|refine BT rfl rfl ?_|refine BU rfl ?_)|(refine BL ?_;first|refine BW (ef_bxn bC rfl rfl rfl rfl (Nat.le_refl _)) ?_|refine BQ ?_)|(refine BR ?_;try simp only [setS]))|refine AA ?_|refine AC ?_|refine AD ?_|refine AE ?_|refine AF rfl rfl ?_|refine AG rfl rfl ?_|refine AH ?_|refine AI ?_|refine AJ ?_|refine AK ?_|refine AL ?_|refine AM ?_|refine AN ?_|refine AO ?_|refine AP ?_|refine AQ rfl ?_|refine AR ?_|refine AS ?_|refine AT rfl ?_|refine AU rfl ?_
    exact fin_q (q := (0, 0)) (er := er10) bC.put rfl rfl ⟨fin0 K11 (q := (0, 0)), rfl⟩
  subst d10
  rw [if_neg (by decide)]
  repeat first|(refine BG ?_;first|(refine BH ?_;first|(refine BI ?_;refine BM ?_)|(refine BJ ?_;first|refine BN ?_|refine BO ?_)|refine BV (v_bxn bF rfl (Nat.le_refl _)) ?_|refine BV (v_bxn bA rfl z2) ?_|refine BP ?_)|(refine BK ?_;first|refine BS rfl rfl ?_|refine BT rfl rfl ?_|refine BU rfl ?_)|(refine BL ?_;first|refine BQ ?_)|(refine BR ?_;try simp only [setS]))|refine AA ?_|refine AC ?_|refine AD ?_|refine AE ?_|refine AF rfl rfl ?_|refine AG rfl rfl ?_|refine AH ?_|refine AI ?_|refine AJ ?_|refine AK ?_|refine AL ?_|refine AM ?_|refine AN ?_|refine AO ?_|refine AP ?_|refine AQ rfl ?_|refine AR ?_|refine AS ?_|refine AT rfl ?_|refine AU rfl ?_
  refine wr_call_e rfl ((rop_ok hE T.r (a := (n10, m10)) (b := a.q) (k := 43) i10 ha (.inl rfl)).mono fun x h12 ⟨k12, e12⟩ => ?_)
  subst e12
  rw [show opF 43 (n10, m10) a.q = addF (n10, m10) a.q from rfl]
  have bC := bC.up k12
  have K12 := K11.and k12
  try simp only
  generalize addF (n10, m10) a.q = r12 at *
  obtain ⟨⟨n12, m12⟩, er12⟩ := r12
  repeat first|(refine BG ?_;first|(refine BH ?_;first|(refine BI ?_;refine BM ?_)|(refine BJ ?_;first|refine BN ?_|refine BO ?_)|refine BP ?_)|(refine BK ?_;first|refine BS rfl rfl ?_|refine BT rfl rfl ?_|refine BU rfl ?_)|(refine BL ?_;first|refine BW (ef_bxn bC rfl rfl rfl rfl (Nat.le_refl _)) ?_|refine BQ ?_)|(refine BR ?_;try simp only [setS]))|refine AA ?_|refine AC ?_|refine AD ?_|refine AE ?_|refine AF rfl rfl ?_|refine AG rfl rfl ?_|refine AH ?_|refine AI ?_|refine AJ ?_|refine AK ?_|refine AL ?_|refine AM ?_|refine AN ?_|refine AO ?_|refine AP ?_|refine AQ rfl ?_|refine AR ?_|refine AS ?_|refine AT rfl ?_|refine AU rfl ?_
  exact fin_q (q := (n12, m12)) (er := er12) bC.put rfl rfl ⟨fin0 K12 (q := (n12, m12)), rfl⟩
set_option maxHeartbeats 2000000 in
theorem r21at_ok (hE : ∀ f e, E f = some e → e.plain) (T : QdT E) {h : Hp X} {v : AV} {l : List SM} (a : Ser h v l) (t0 : Int) :
    WF (lim E) 36 [v, .int .i64 t0] h fun x h' => Keep NoB h h' ∧ x = qat (atF l t0) := by
  refine wf_bc hE T.at' rfl ?_
  simp only [b_ref21At, List.map, getS]
  have bx : Bx (h.push (.rw [.int .i64 0, .int .i64 0])) h.n [.int .i64 0, .int .i64 0] := bx_push
  have kp : Keep NoB h (h.push (.rw [.int .i64 0, .int .i64 0])) := Keep.push _ _ _
  have fin0 : ∀ {hh : Hp X} (K : Keep NoB h hh) {q : QQ}, Keep NoB h (hh.put h.n (.rw [.int .i64 q.1, .int .i64 q.2])) := fun {hh} K {q} =>
    K.own (Keep.put _ _ _ (S := OneB h.n) rfl) (fun k q => Nat.le_of_eq q.symm)
  repeat first|(refine BG ?_;first|(refine BH ?_;first|(refine BI ?_;refine BM ?_)|(refine BJ ?_;first|refine BN ?_|refine BO ?_)|refine BP ?_)|(refine BK ?_;first|refine BS rfl rfl ?_|refine BT rfl rfl ?_|refine BU rfl ?_)|(refine BL ?_;first|refine BQ ?_)|(refine BR ?_;try simp only [setS]))|refine AA ?_|refine AC ?_|refine AD ?_|refine AE ?_|refine AF rfl rfl ?_|refine AG rfl rfl ?_|refine AH ?_|refine AI ?_|refine AJ ?_|refine AK ?_|refine AL ?_|refine AM ?_|refine AN ?_|refine AO ?_|refine AP ?_|refine AQ rfl ?_|refine AR ?_|refine AS ?_|refine AT rfl ?_|refine AU rfl ?_
  refine wr_call_e rfl ((r21right_ok hE T (a.up kp)).mono fun x h2 ⟨k2, b, e2, hb⟩ => ?_)
  subst e2
  have bx := bx.up k2
  have K2 := kp.and k2
  cases b with
  | false =>
    have hnr : ¬ RightS l := fun q => by have := hb.2 q; cases this
    have e : atF l t0 = (((0, 0), false), 1) := by unfold atF; rw [if_neg hnr]
    rw [e]
    repeat first|(refine BG ?_;first|(refine BH ?_;first|(refine BI ?_;refine BM ?_)|(refine BJ ?_;first|refine BN ?_|refine BO ?_)|refine BV (v_notb rfl) ?_|refine BP ?_)|(refine BK ?_;first|refine BS rfl rfl ?_|refine BT rfl rfl ?_|refine BU rfl ?_)|(refine BL ?_;first|refine BW (ef_bxn bx rfl rfl rfl rfl (Nat.le_refl _)) ?_|refine BQ ?_)|(refine BR ?_;try simp only [setS]))|refine AA ?_|refine AC ?_|refine AD ?_|refine AE ?_|refine AF rfl rfl ?_|refine AG rfl rfl ?_|refine AH ?_|refine AI ?_|refine AJ ?_|refine AK ?_|refine AL ?_|refine AM ?_|refine AN ?_|refine AO ?_|refine AP ?_|refine AQ rfl ?_|refine AR ?_|refine AS ?_|refine AT rfl ?_|refine AU rfl ?_
    exact fin_q3 (q := (0, 0)) (b := false) (er := 1) bx.put rfl rfl rfl ⟨fin0 K2 (q := (0, 0)), rfl⟩
  | true =>
    have hr : RightS l := hb.1 rfl
    have e : atF l t0 = atR l t0 := by unfold atF; rw [if_pos hr]
    rw [e]
    have a2 := a.up K2
    obtain ⟨h1, h2'⟩ := plF_spec hr t0
    generalize hpl : plF l t0 = p at *
    have kr := Keep.refl (NoB) (h2 : Hp X)
    have hlen := a.len
    repeat first|(refine BG ?_;first|(refine BH ?_;first|(refine BI ?_;refine BM ?_)|(refine BJ ?_;first|refine BN ?_|refine BO ?_)|refine BV (v_notb rfl) ?_|refine BP ?_)|(refine BK ?_;first|refine BS rfl rfl ?_|refine BT rfl rfl ?_|refine BU rfl ?_)|(refine BL ?_;first|refine BQ ?_)|(refine BR ?_;try simp only [setS]))|refine AA ?_|refine AC ?_|refine AD ?_|refine AE ?_|refine AF rfl rfl ?_|refine AG rfl rfl ?_|refine AH ?_|refine AI ?_|refine AJ ?_|refine AK ?_|refine AL ?_|refine AM ?_|refine AN ?_|refine AO ?_|refine AP ?_|refine AQ rfl ?_|refine AR ?_|refine AS ?_|refine AT rfl ?_|refine AU rfl ?_
    refine wb_loop (fun n t hh => ∃ (i : Nat) (s9 s10 s11 : AV), i ≤ l.length ∧ n = l.length - i ∧ hh = h2 ∧ (i ≤ p ∨ p = 0 ∧ ∀ s, l[0]? = some s → s.t ≠ t0) ∧ t = [v, .int .i64 t0, .ptr h.n 0, .bool false, .int .i64 0, .int .i64 i, .bot, .bot, .bool false, s9, s10, s11]) ?_ l.length _ _ ⟨0, _, _, _, by omega, by omega, rfl, .inl (by omega), rfl⟩
    rintro n t hh ⟨i, s9, s10, s11, hi, hm, eh, hp, rfl⟩
    have eh := eh.symm
    subst eh
    by_cases hlt : i < l.length
    · obtain ⟨s, hs⟩ : ∃ s, l[i]? = some s := ⟨_, List.getElem?_eq_getElem hlt⟩
      obtain ⟨g, o, c0, c1, c2, c3⟩ := a2.rs.atS hs
      by_cases hip : i = p
      · subst hip
        have hge := h2' i s (Nat.le_refl _) hs
        by_cases hst : s.t = t0
        · have eR : atR l t0 = ((s.q, true), 0) := by unfold atR; rw [hpl, hs]; simp only; rw [if_pos hst]
          rw [eR]
          repeat first|(refine BG ?_;first|(refine BH ?_;first|(refine BI ?_;refine BM ?_)|(refine BJ ?_;first|refine BN ?_|refine BO ?_)|refine BV (a2.rs.lenv (by rfl)) ?_|refine BV (c0 rfl rfl) ?_|refine BV (c1 kr rfl) ?_|refine BV (c2 kr rfl) ?_|refine BP ?_)|(refine BK ?_;first|refine BS rfl rfl ?_|refine BT rfl rfl ?_|refine BU rfl ?_)|(refine BL ?_;first|refine BW (ef_bxn bx rfl rfl rfl rfl (Nat.le_refl _)) ?_|refine BQ ?_)|(refine BR ?_;try simp only [setS]))|refine AA ?_|refine AC ?_|refine AD ?_|refine AE ?_|refine AF rfl rfl ?_|refine AG rfl rfl ?_|refine AH ?_|refine AI ?_|refine AJ ?_|refine AK ?_|refine AL ?_|refine AM ?_|refine AN ?_|refine AO ?_|refine AP ?_|refine AQ rfl ?_|refine AR ?_|refine AS ?_|refine AT rfl ?_|refine AU rfl ?_
          exact fin_q3 (q := s.q) (b := true) (er := 0) bx.put rfl rfl rfl ⟨fin0 K2 (q := s.q), rfl⟩
        · rcases Nat.eq_zero_or_pos i with hp0 | hp0
          · subst hp0
            repeat first|(refine BG ?_;first|(refine BH ?_;first|(refine BI ?_;refine BM ?_)|(refine BJ ?_;first|refine BN ?_|refine BO ?_)|refine BV (a2.rs.lenv (by rfl)) ?_|refine BV (c0 rfl rfl) ?_|refine BV (c1 kr rfl) ?_|refine BP ?_)|(refine BK ?_;first|refine BS rfl rfl ?_|refine BT rfl rfl ?_|refine BU rfl ?_)|(refine BL ?_;first|refine BQ ?_)|(refine BR ?_;try simp only [setS]))|refine AA ?_|refine AC ?_|refine AD ?_|refine AE ?_|refine AF rfl rfl ?_|refine AG rfl rfl ?_|refine AH ?_|refine AI ?_|refine AJ ?_|refine AK ?_|refine AL ?_|refine AM ?_|refine AN ?_|refine AO ?_|refine AP ?_|refine AQ rfl ?_|refine AR ?_|refine AS ?_|refine AT rfl ?_|refine AU rfl ?_
            rw [show (((0 : Nat) : Int) + 1) = ((0 + 1 : Nat) : Int) by omega]
            refine round_norm (n - 1) (by omega) ⟨0 + 1, _, _, _, by omega, by omega, rfl, .inr ⟨(by first | rfl | trivial), fun s' hs' => by rw [hs] at hs'; cases hs'; exact hst⟩, rfl⟩
          · obtain ⟨m, rfl⟩ : ∃ m, i = m + 1 := ⟨i - 1, by omega⟩
            obtain ⟨u, hu⟩ : ∃ u, l[m]? = some u := ⟨_, List.getElem?_eq_getElem (by omega)⟩
            have hul := h1 m u (by omega) hu
            obtain ⟨g', o', d0, d1, d2, d3⟩ := a2.rs.atS hu
            have eR : atR l t0 = (((betF u s t0).1, decide ((betF u s t0).2 = 0)), (betF u s t0).2) := by unfold atR; rw [hpl, hs]; simp only; rw [if_neg hst, if_neg (by omega), Nat.add_sub_cancel, hu]
            rw [eR]
            repeat first|(refine BG ?_;first|(refine BH ?_;first|(refine BI ?_;refine BM ?_)|(refine BJ ?_;first|refine BN ?_|refine BO ?_)|refine BV (a2.rs.lenv (by rfl)) ?_|refine BV (c0 rfl rfl) ?_|refine BV (c1 kr rfl) ?_|refine BV (v_pred rfl rfl (by omega)) ?_|refine BV (d0 rfl (congrArg (AV.int .i64) (show (((m + 1 : Nat) : Int) - 1) = (m : Int) by omega))) ?_|refine BV (d1 kr rfl) ?_|refine BP ?_)|(refine BK ?_;first|refine BS rfl rfl ?_|refine BT rfl rfl ?_|refine BU rfl ?_)|(refine BL ?_;first|refine BQ ?_)|(refine BR ?_;try simp only [setS]))|refine AA ?_|refine AC ?_|refine AD ?_|refine AF rfl rfl ?_|refine AG rfl rfl ?_|refine AH ?_|refine AI ?_|refine AJ ?_|refine AK ?_|refine AL ?_|refine AM ?_|refine AN ?_|refine AO ?_|refine AP ?_|refine AQ rfl ?_|refine AR ?_|refine AS ?_|refine AT rfl ?_|refine AU rfl ?_
            have kq : Keep NoB h2 (h2.push (.rw [.int .i64 0, .int .i64 0])) := Keep.push _ _ _
            have bq : Bx (h2.push (.rw [.int .i64 0, .int .i64 0])) h2.n [.int .i64 0, .int .i64 0] := bx_push
            have bxq := bx.up kq
            repeat first|(refine BG ?_;first|(refine BH ?_;first|(refine BI ?_;refine BM ?_)|(refine BJ ?_;first|refine BN ?_|refine BO ?_)|refine BV (v_pred rfl rfl (by omega)) ?_|refine BV (d0 rfl rfl) ?_|refine BV (d3 kr rfl) ?_|refine BV (c0 rfl rfl) ?_|refine BV (c3 kr rfl) ?_|refine BP ?_)|(refine BK ?_;first|refine BS rfl rfl ?_|refine BT rfl rfl ?_|refine BU rfl ?_)|(refine BL ?_;first|refine BQ ?_)|(refine BR ?_;try simp only [setS]))|(refine BX ?_;first|refine BY rfl ?_|(refine BZ ?_;refine CA ?_)|refine CB (v_pred rfl rfl (by omega)) ?_|refine CB (d0 rfl rfl) ?_|refine CB (d3 kr rfl) ?_|refine CB (c0 rfl rfl) ?_|refine CB (c3 kr rfl) ?_|refine CC ?_|(refine CD ?_;try simp only [setS]))|refine AA ?_|refine AC ?_|refine AD ?_|refine AE ?_|refine AF rfl rfl ?_|refine AG rfl rfl ?_|refine AH ?_|refine AI ?_|refine AJ ?_|refine AK ?_|refine AL ?_|refine AM ?_|refine AN ?_|refine AO ?_|refine AP ?_|refine AQ rfl ?_|refine AR ?_|refine AS ?_|refine AT rfl ?_|refine AU rfl ?_
            refine wd_alloc_s (by (try simp only [List.nil_append, List.cons_append]);repeat first|exact chk_nil|(apply chk_at;(focus exact rfl);first|exact pa_skp|(refine pa_mov ?_;first|exact (v_pred rfl rfl (by omega))|exact (d0 rfl rfl)|exact (d3 kq rfl)|exact (c0 rfl rfl)|exact (c3 kq rfl)|exact rfl))) ?_
            simp only [setS]
            generalize h2.push (.rw [.int .i64 0, .int .i64 0]) = h4 at *
            repeat first|(refine BG ?_;first|(refine BH ?_;first|(refine BI ?_;refine BM ?_)|(refine BJ ?_;first|refine BN ?_|refine BO ?_)|refine BP ?_)|(refine BK ?_;first|refine BS rfl rfl ?_|refine BT rfl rfl ?_|refine BU rfl ?_)|(refine BL ?_;first|refine BQ ?_)|(refine BR ?_;try simp only [setS]))|(refine BX ?_;first|refine BY rfl ?_|(refine BZ ?_;refine CA ?_)|refine CC ?_|(refine CD ?_;try simp only [setS]))|refine AA ?_|refine AC ?_|refine AD ?_|refine AE ?_|refine AF rfl rfl ?_|refine AG rfl rfl ?_|refine AH ?_|refine AI ?_|refine AJ ?_|refine AK ?_|refine AL ?_|refine AM ?_|refine AN ?_|refine AO ?_|refine AP ?_|refine AQ rfl ?_|refine AR ?_|refine AS ?_|refine AT rfl ?_|refine AU rfl ?_
            have su := hr m u hu
            have ss := hr (m + 1) s hs
            refine wd_calls_e rfl ((r21between_ok hE T (a := u) (b := s) (t0 := t0) (a.row u (List.mem_of_getElem? hu)).2 (a.row s (List.mem_of_getElem? hs)).2 ⟨su.t0, su.t1⟩ ⟨ss.t0, ss.t1⟩).mono fun x h5 ⟨k5, e5⟩ => ?_)
            subst e5
            have bq5 := bq.up k5
            have bx5 := bxq.up k5
            have K5 := (K2.and kq).and k5
            refine ⟨(by (try simp only [List.nil_append, List.cons_append]);repeat first|exact chk_nil|(apply chk_at;(focus exact rfl);first|exact pa_skp|exact (pa_alc bq5.get)|(refine pa_mov ?_;first|exact rfl))), ?_⟩
            generalize betF u s t0 = r at *
            obtain ⟨⟨n1, n2⟩, er⟩ := r
            repeat first|(refine BG ?_;first|(refine BH ?_;first|(refine BI ?_;refine BM ?_)|(refine BJ ?_;first|refine BN ?_|refine BO ?_)|refine BP ?_)|(refine BK ?_;first|refine BS rfl rfl ?_|refine BT rfl rfl ?_|refine BU rfl ?_)|(refine BL ?_;first|refine BQ ?_)|(refine BR ?_;try simp only [setS]))|(refine BX ?_;first|refine BY rfl ?_|(refine BZ ?_;refine CA ?_)|refine CC ?_|(refine CD ?_;try simp only [setS]))|refine AA ?_|refine AC ?_|refine AD ?_|refine AE ?_|refine AF rfl rfl ?_|refine AG rfl rfl ?_|refine AH ?_|refine AI ?_|refine AJ ?_|refine AK ?_|refine AL ?_|refine AM ?_|refine AN ?_|refine AO ?_|refine AP ?_|refine AQ rfl ?_|refine AR ?_|refine AS ?_|refine AT rfl ?_|refine AU rfl ?_
            refine wd_ef (ef_bxn bq5 rfl rfl rfl rfl (Nat.le_refl _)) (by (try simp only [List.nil_append, List.cons_append]);repeat first|exact chk_nil|(apply chk_at;(focus exact rfl);first|exact pa_skp|(refine pa_mov ?_;first|exact rfl))) ?_
            refine wd_heap (h' := h5.put h2.n (.rw [.int .i64 n1, .int .i64 n2])) rfl ?_
            have k6 : Keep (OneB h2.n) h5 (h5.put h2.n (.rw [.int .i64 n1, .int .i64 n2])) := Keep.put _ _ _ rfl
            have bq6 : Bx (h5.put h2.n (.rw [.int .i64 n1, .int .i64 n2])) h2.n [.int .i64 n1, .int .i64 n2] := bq5.put
            have hlt2 := bx.lt
            have n2' := K2.n
            have n1' := kp.n
            have bx6 := bx5.keep k6 (fun q => by have q : h.n = h2.n := q; omega)
            have K6 := K5.own k6 (fun k q => by have q : k = h2.n := q; omega)
            generalize h5.put h2.n (.rw [.int .i64 n1, .int .i64 n2]) = h6 at *
            by_cases her : er = 0
            · subst her
              repeat first|(refine BG ?_;first|(refine BH ?_;first|(refine BI ?_;refine BM ?_)|(refine BJ ?_;first|refine BN ?_|refine BO ?_)|refine BV (v_bxn bq6 rfl (Nat.le_refl _)) ?_|refine BP ?_)|(refine BK ?_;first|refine BS rfl rfl ?_|refine BT rfl rfl ?_|refine BU rfl ?_)|(refine BL ?_;first|refine BW (ef_bxn bx6 rfl rfl rfl rfl (Nat.le_refl _)) ?_|refine BQ ?_)|(refine BR ?_;try simp only [setS]))|(refine BX ?_;first|refine BY rfl ?_|(refine BZ ?_;refine CA ?_)|refine CB (v_bxn bq6 rfl (Nat.le_refl _)) ?_|refine CC ?_|(refine CD ?_;try simp only [setS]))|refine AA ?_|refine AC ?_|refine AD ?_|refine AE ?_|refine AF rfl rfl ?_|refine AG rfl rfl ?_|refine AH ?_|refine AI ?_|refine AJ ?_|refine AK ?_|refine AL ?_|refine AM ?_|refine AN ?_|refine AO ?_|refine AP ?_|refine AQ rfl ?_|refine AR ?_|refine AS ?_|refine AT rfl ?_|refine AU rfl ?_
              exact fin_q3 (q := (n1, n2)) (b := true) (er := 0) bx6.put rfl rfl rfl ⟨fin0 K6 (q := (n1, n2)), rfl⟩
            · rw [decide_eq_false her]
              repeat first|(refine BG ?_;first|(refine BH ?_;first|(refine BI ?_;refine BM ?_)|(refine BJ ?_;first|refine BN ?_|refine BO ?_)|refine BV (v_bxn bq6 rfl (Nat.le_refl _)) ?_|refine BP ?_)|(refine BK ?_;first|refine BS rfl rfl ?_|refine BT rfl rfl ?_|refine BU rfl ?_)|(refine BL ?_;first|refine BW (ef_bxn bx6 rfl rfl rfl rfl (Nat.le_refl _)) ?_|refine BQ ?_)|(refine BR ?_;try simp only [setS]))|(refine BX ?_;first|refine BY rfl ?_|(refine BZ ?_;refine CA ?_)|refine CB (v_bxn bq6 rfl (Nat.le_refl _)) ?_|refine CC ?_|(refine CD ?_;try simp only [setS]))|refine AA ?_|refine AC ?_|refine AD ?_|refine AE ?_|refine AF rfl rfl ?_|refine AG rfl rfl ?_|refine AH ?_|refine AI ?_|refine AJ ?_|refine AK ?_|refine AL ?_|refine AM ?_|refine AN ?_|refine AO ?_|refine AP ?_|refine AQ rfl ?_|refine AR ?_|refine AS ?_|refine AT rfl ?_|refine AU rfl ?_
              exact fin_q3 (q := (n1, n2)) (b := false) (er := er) bx6.put rfl rfl rfl ⟨fin0 K6 (q := (n1, n2)), rfl⟩
      · rcases Nat.lt_or_ge i p with hlp | hlp
        · have hst := h1 i s hlp hs
          rcases Nat.eq_zero_or_pos i with hp0 | hp0
          · subst hp0
            repeat first|(refine BG ?_;first|(refine BH ?_;first|(refine BI ?_;refine BM ?_)|(refine BJ ?_;first|refine BN ?_|refine BO ?_)|refine BV (a2.rs.lenv (by rfl)) ?_|refine BV (c0 rfl rfl) ?_|refine BV (c1 kr rfl) ?_|refine BP ?_)|(refine BK ?_;first|refine BS rfl rfl ?_|refine BT rfl rfl ?_|refine BU rfl ?_)|(refine BL ?_;first|refine BQ ?_)|(refine BR ?_;try simp only [setS]))|refine AA ?_|refine AC ?_|refine AD ?_|refine AE ?_|refine AF rfl rfl ?_|refine AG rfl rfl ?_|refine AH ?_|refine AI ?_|refine AJ ?_|refine AK ?_|refine AL ?_|refine AM ?_|refine AN ?_|refine AO ?_|refine AP ?_|refine AQ rfl ?_|refine AR ?_|refine AS ?_|refine AT rfl ?_|refine AU rfl ?_
            rw [show (((0 : Nat) : Int) + 1) = ((0 + 1 : Nat) : Int) by omega]
            exact round_norm (n - 1) (by omega) ⟨0 + 1, _, _, _, by omega, by omega, rfl, .inl (by omega), rfl⟩
          · obtain ⟨m, rfl⟩ : ∃ m, i = m + 1 := ⟨i - 1, by omega⟩
            obtain ⟨u, hu⟩ : ∃ u, l[m]? = some u := ⟨_, List.getElem?_eq_getElem (by omega)⟩
            have hul := h1 m u (by omega) hu
            obtain ⟨g', o', d0, d1, d2, d3⟩ := a2.rs.atS hu
            repeat first|(refine BG ?_;first|(refine BH ?_;first|(refine BI ?_;refine BM ?_)|(refine BJ ?_;first|refine BN ?_|refine BO ?_)|refine BV (a2.rs.lenv (by rfl)) ?_|refine BV (c0 rfl rfl) ?_|refine BV (c1 kr rfl) ?_|refine BV (d0 rfl (congrArg (AV.int .i64) (show (((m + 1 : Nat) : Int) - 1) = (m : Int) by omega))) ?_|refine BV (d1 kr rfl) ?_|refine BP ?_)|(refine BK ?_;first|refine BS rfl rfl ?_|refine BT rfl rfl ?_|refine BU rfl ?_)|(refine BL ?_;first|refine BQ ?_)|(refine BR ?_;try simp only [setS]))|refine AA ?_|refine AC ?_|refine AD ?_|refine AE ?_|refine AF rfl rfl ?_|refine AG rfl rfl ?_|refine AH ?_|refine AI ?_|refine AJ ?_|refine AK ?_|refine AL ?_|refine AM ?_|refine AN ?_|refine AO ?_|refine AP ?_|refine AQ rfl ?_|refine AR ?_|refine AS ?_|refine AT rfl ?_|refine AU rfl ?_
            rw [show (((m + 1 : Nat) : Int) + 1) = ((m + 1 + 1 : Nat) : Int) by omega]
            exact round_norm (n - 1) (by omega) ⟨m + 1 + 1, _, _, _, by omega, by omega, rfl, .inl (by omega), rfl⟩
        · have hp0 : p = 0 ∧ ∀ s, l[0]? = some s → s.t ≠ t0 := by
            rcases hp with q | q
            · omega
            · exact q
          obtain ⟨rfl, hz⟩ := hp0
          obtain ⟨m, rfl⟩ : ∃ m, i = m + 1 := ⟨i - 1, by omega⟩
          obtain ⟨u, hu⟩ : ∃ u, l[m]? = some u := ⟨_, List.getElem?_eq_getElem (by omega)⟩
          obtain ⟨z, hz0⟩ : ∃ z, l[0]? = some z := ⟨_, List.getElem?_eq_getElem (by omega)⟩
          have hzt := hz z hz0
          have hzg := h2' 0 z (Nat.le_refl _) hz0
          have hul := h2' m u (by omega) hu
          have hsl := hr.lt (show 0 < m + 1 by omega) hz0 hs
          obtain ⟨g', o', d0, d1, d2, d3⟩ := a2.rs.atS hu
          repeat first|(refine BG ?_;first|(refine BH ?_;first|(refine BI ?_;refine BM ?_)|(refine BJ ?_;first|refine BN ?_|refine BO ?_)|refine BV (a2.rs.lenv (by rfl)) ?_|refine BV (c0 rfl rfl) ?_|refine BV (c1 kr rfl) ?_|refine BV (d0 rfl (congrArg (AV.int .i64) (show (((m + 1 : Nat) : Int) - 1) = (m : Int) by omega))) ?_|refine BV (d1 kr rfl) ?_|refine BP ?_)|(refine BK ?_;first|refine BS rfl rfl ?_|refine BT rfl rfl ?_|refine BU rfl ?_)|(refine BL ?_;first|refine BQ ?_)|(refine BR ?_;try simp only [setS]))|refine AA ?_|refine AC ?_|refine AD ?_|refine AE ?_|refine AF rfl rfl ?_|refine AG rfl rfl ?_|refine AH ?_|refine AI ?_|refine AJ ?_|refine AK ?_|refine AL ?_|refine AM ?_|refine AN ?_|refine AO ?_|refine AP ?_|refine AQ rfl ?_|refine AR ?_|refine AS ?_|refine AT rfl ?_|refine AU rfl ?_
          rw [show (((m + 1 : Nat) : Int) + 1) = ((m + 1 + 1 : Nat) : Int) by omega]
          exact round_norm (n - 1) (by omega) ⟨m + 1 + 1, _, _, _, by omega, by omega, rfl, .inr ⟨(by first | rfl | trivial), hz⟩, rfl⟩
    · have hres : atR l t0 = (((0, 0), false), 0) := by
        unfold atR
        rw [hpl]
        rcases hp with q | ⟨q0, q⟩
        · rw [List.getElem?_eq_none (by omega)]
        · subst q0
          cases hz : l[0]? with
          | none => rfl
          | some s => simp only; rw [if_neg (q s hz)]; simp
      rw [hres]
      repeat first|(refine BG ?_;first|(refine BH ?_;first|(refine BI ?_;refine BM ?_)|(refine BJ ?_;first|refine BN ?_|refine BO ?_)|refine BV (a2.rs.lenv (by rfl)) ?_|refine BP ?_)|(refine BK ?_;first|refine BS rfl rfl ?_|refine BT rfl rfl ?_|refine BU rfl ?_)|(refine BL ?_;first|refine BW (ef_bxn bx rfl rfl rfl rfl (Nat.le_refl _)) ?_|refine BQ ?_)|(refine BR ?_;try simp only [setS]))|refine AA ?_|refine AC ?_|refine AD ?_|refine AE ?_|refine AF rfl rfl ?_|refine AG rfl rfl ?_|refine AH ?_|refine AI ?_|refine AJ ?_|refine AK ?_|refine AL ?_|refine AM ?_|refine AN ?_|refine AO ?_|refine AP ?_|refine AQ rfl ?_|refine AR ?_|refine AS ?_|refine AT rfl ?_|refine AU rfl ?_
      exact fin_q3 (q := (0, 0)) (b := false) (er := 0) bx.put rfl rfl rfl ⟨fin0 K2 (q := (0, 0)), rfl⟩
end
end Am
end Go.Proofs.Ytkgplkddpigagaa
