/- lerp: Between, At. -/
import Derived.Test.YtkgplkddpigagaaQaC
set_option linter.unusedVariables false
set_option linter.unusedSimpArgs false
namespace Go.Proofs.Ytkgplkddpigagaa
namespace Am
open Go.RowKit
set_option maxRecDepth 100000
def b_lerpBetween : BF := ⟨102, [0, 1, 2, 3, 4, 6, 7, 8, 9, 10, 11, 12, 43, 50, 66, 83, 93], (.seq (.reg [.mk none (.slot 3) (.eff (.box (.slot 0))), .mk none (.slot 4) (.eff (.box (.slot 1))), .mk none (.slot 5) (.eff (.alloc [(.int .i64 0), (.int .i64 0)])), .mk none (.slot 6) (.mov (.mv (.const (.int .i64 0))))]) (.seq (.block 0 (.seq (.reg [.mk none (.env 13) (.mov (.faddr 0 (.slot 3))), .mk none (.env 14) (.mov (.ld1 (.env 13))), .mk none (.env 15) (.mov (.faddr 0 (.slot 4))), .mk none (.env 16) (.mov (.ld1 (.env 15))), .mk none (.env 17) (.mov (.bin .geq .no (.env 14) (.env 16))), .mk none (.env 18) (.mov (.mv (.env 17))), .mk (some ((.env 18), false)) (.env 19) (.mov (.mv (.slot 2))), .mk (some ((.env 18), false)) (.env 20) (.mov (.faddr 0 (.slot 3))), .mk (some ((.env 18), false)) (.env 21) (.mov (.ld1 (.env 20))), .mk (some ((.env 18), false)) (.env 22) (.mov (.bin .lss .no (.env 19) (.env 21))), .mk none (.env 23) (.mov (.pick (.env 18) (.const (.bool true)) (.env 22))), .mk none (.env 24) (.mov (.mv (.env 23))), .mk (some ((.env 24), false)) (.env 25) (.mov (.mv (.slot 2))), .mk (some ((.env 24), false)) (.env 26) (.mov (.faddr 0 (.slot 4))), .mk (some ((.env 24), false)) (.env 27) (.mov (.ld1 (.env 26))), .mk (some ((.env 24), false)) (.env 28) (.mov (.bin .gtr .no (.env 25) (.env 27))), .mk none (.env 29) (.mov (.pick (.env 24) (.const (.bool true)) (.env 28))), .mk none (.env 30) (.mov (.mv (.env 29))), .mk (some ((.env 30), false)) (.env 31) (.mov (.faddr 1 (.slot 3))), .mk (some ((.env 30), false)) (.env 32) (.mov (.ldn 2 (.env 31))), .mk (some ((.env 30), false)) (.env 33) (.call 39 [(.env 32)]), .mk (some ((.env 30), false)) (.env 34) (.mov (.notb (.env 33))), .mk none (.env 35) (.mov (.pick (.env 30) (.const (.bool true)) (.env 34))), .mk none (.env 36) (.mov (.mv (.env 35))), .mk (some ((.env 36), false)) (.env 37) (.mov (.faddr 1 (.slot 4))), .mk (some ((.env 36), false)) (.env 38) (.mov (.ldn 2 (.env 37))), .mk (some ((.env 36), false)) (.env 39) (.call 39 [(.env 38)]), .mk (some ((.env 36), false)) (.env 40) (.mov (.notb (.env 39))), .mk none (.env 41) (.mov (.pick (.env 36) (.const (.bool true)) (.env 40))), .mk none (.slot 11) (.mov (.mv (.env 41)))]) (.cond (.slot 11) (.seq (.reg [.mk none (.env 42) (.mov (.bld [(.int .i64 0), (.int .i64 0)] [])), .mk none .none (.eff (.store 2 (.slot 5) (.env 42))), .mk none (.slot 6) (.mov (.mv (.const (.int .i64 1))))]) .ret) (.seq (.reg [.mk none (.env 44) (.mov (.mv (.slot 2))), .mk none (.env 45) (.mov (.faddr 0 (.slot 3))), .mk none (.env 46) (.mov (.ld1 (.env 45))), .mk none (.env 47) (.mov (.bin .eql .no (.env 44) (.env 46))), .mk none (.slot 12) (.mov (.mv (.env 47)))]) (.cond (.slot 12) (.seq (.reg [.mk none (.env 48) (.mov (.faddr 1 (.slot 3))), .mk none (.env 49) (.mov (.ldn 2 (.env 48))), .mk none .none (.eff (.store 2 (.slot 5) (.env 49))), .mk none (.slot 6) (.mov (.mv (.const (.int .i64 0))))]) .ret) (.seq (.reg [.mk none (.env 51) (.mov (.mv (.slot 2))), .mk none (.env 52) (.mov (.faddr 0 (.slot 4))), .mk none (.env 53) (.mov (.ld1 (.env 52))), .mk none (.env 54) (.mov (.bin .eql .no (.env 51) (.env 53))), .mk none (.slot 13) (.mov (.mv (.env 54)))]) (.cond (.slot 13) (.seq (.reg [.mk none (.env 55) (.mov (.faddr 1 (.slot 4))), .mk none (.env 56) (.mov (.ldn 2 (.env 55))), .mk none .none (.eff (.store 2 (.slot 5) (.env 56))), .mk none (.slot 6) (.mov (.mv (.const (.int .i64 0))))]) .ret) .skip))))))) (.seq (.reg [.mk none (.env 58) (.mov (.faddr 1 (.slot 4))), .mk none (.env 59) (.mov (.ldn 2 (.env 58))), .mk none (.env 60) (.mov (.faddr 1 (.slot 3))), .mk none (.env 61) (.mov (.ldn 2 (.env 60))), .mk none (.env 62) (.call 50 [(.env 59), (.env 61)]), .mk none (.env 57) (.mov (.mv (.env 62))), .mk none (.env 63) (.mov (.ext 0 (.env 57))), .mk none (.env 64) (.mov (.ext 1 (.env 57))), .mk none (.slot 7) (.eff (.alloc [(.int .i64 0), (.int .i64 0)])), .mk none .none (.eff (.store 2 (.slot 7) (.env 63))), .mk none (.slot 8) (.mov (.mv (.env 64)))]) (.seq (.seq (.reg [.mk none (.env 65) (.mov (.mv (.slot 8))), .mk none (.slot 14) (.mov (.bin .neq .no (.env 65) (.const (.int .i64 0))))]) (.cond (.slot 14) (.seq (.reg [.mk none (.env 67) (.mov (.bld [(.int .i64 0), (.int .i64 0)] [])), .mk none (.env 68) (.mov (.mv (.slot 8))), .mk none .none (.eff (.store 2 (.slot 5) (.env 67))), .mk none (.slot 6) (.mov (.mv (.env 68)))]) .ret) .skip)) (.seq (.reg [.mk none (.env 70) (.mov (.mv (.slot 2))), .mk none (.env 71) (.mov (.faddr 0 (.slot 3))), .mk none (.env 72) (.mov (.ld1 (.env 71))), .mk none (.env 73) (.mov (.bin .sub .no (.env 70) (.env 72))), .mk none (.env 74) (.mov (.faddr 0 (.slot 4))), .mk none (.env 75) (.mov (.ld1 (.env 74))), .mk none (.env 76) (.mov (.faddr 0 (.slot 3))), .mk none (.env 77) (.mov (.ld1 (.env 76))), .mk none (.env 78) (.mov (.bin .sub .no (.env 75) (.env 77))), .mk none (.env 79) (.call 51 [(.env 73), (.env 78)]), .mk none (.env 69) (.mov (.mv (.env 79))), .mk none (.env 80) (.mov (.ext 0 (.env 69))), .mk none (.env 81) (.mov (.ext 1 (.env 69))), .mk none (.slot 9) (.eff (.alloc [(.int .i64 0), (.int .i64 0)])), .mk none .none (.eff (.store 2 (.slot 9) (.env 80))), .mk none (.slot 8) (.mov (.mv (.env 81)))]) (.seq (.seq (.reg [.mk none (.env 82) (.mov (.mv (.slot 8))), .mk none (.slot 15) (.mov (.bin .neq .no (.env 82) (.const (.int .i64 0))))]) (.cond (.slot 15) (.seq (.reg [.mk none (.env 84) (.mov (.bld [(.int .i64 0), (.int .i64 0)] [])), .mk none (.env 85) (.mov (.mv (.slot 8))), .mk none .none (.eff (.store 2 (.slot 5) (.env 84))), .mk none (.slot 6) (.mov (.mv (.env 85)))]) .ret) .skip)) (.seq (.reg [.mk none (.env 87) (.mov (.ldn 2 (.slot 7))), .mk none (.env 88) (.mov (.ldn 2 (.slot 9))), .mk none (.env 89) (.call 52 [(.env 87), (.env 88)]), .mk none (.env 86) (.mov (.mv (.env 89))), .mk none (.env 90) (.mov (.ext 0 (.env 86))), .mk none (.env 91) (.mov (.ext 1 (.env 86))), .mk none (.slot 10) (.eff (.alloc [(.int .i64 0), (.int .i64 0)])), .mk none .none (.eff (.store 2 (.slot 10) (.env 90))), .mk none (.slot 8) (.mov (.mv (.env 91)))]) (.seq (.seq (.reg [.mk none (.env 92) (.mov (.mv (.slot 8))), .mk none (.slot 16) (.mov (.bin .neq .no (.env 92) (.const (.int .i64 0))))]) (.cond (.slot 16) (.seq (.reg [.mk none (.env 94) (.mov (.bld [(.int .i64 0), (.int .i64 0)] [])), .mk none (.env 95) (.mov (.mv (.slot 8))), .mk none .none (.eff (.store 2 (.slot 5) (.env 94))), .mk none (.slot 6) (.mov (.mv (.env 95)))]) .ret) .skip)) (.seq (.reg [.mk none (.env 96) (.mov (.ldn 2 (.slot 10))), .mk none (.env 97) (.mov (.faddr 1 (.slot 3))), .mk none (.env 98) (.mov (.ldn 2 (.env 97))), .mk none (.env 99) (.call 53 [(.env 96), (.env 98)]), .mk none (.env 100) (.mov (.ext 0 (.env 99))), .mk none (.env 101) (.mov (.ext 1 (.env 99))), .mk none .none (.eff (.store 2 (.slot 5) (.env 100))), .mk none (.slot 6) (.mov (.mv (.env 101)))]) .ret))))))))), [.celln 2 (.slot 5), .slot (.slot 6)]⟩
def b_lerpAt : BF := ⟨64, [0, 1, 4, 5, 6, 7, 8, 9, 12, 17, 36], (.seq (.reg [.mk none (.slot 2) (.eff (.alloc [(.int .i64 0), (.int .i64 0)])), .mk none (.slot 3) (.mov (.mv (.const (.bool false)))), .mk none (.slot 4) (.mov (.mv (.const (.int .i64 0))))]) (.seq (.seq (.reg [.mk none (.env 10) (.mov (.mv (.slot 0))), .mk none (.env 11) (.call 25 [(.env 10)]), .mk none (.slot 8) (.mov (.notb (.env 11)))]) (.cond (.slot 8) (.seq (.reg [.mk none (.env 13) (.mov (.bld [(.int .i64 0), (.int .i64 0)] [])), .mk none .none (.eff (.store 2 (.slot 2) (.env 13))), .mk none (.slot 3) (.mov (.mv (.const (.bool false)))), .mk none (.slot 4) (.mov (.mv (.const (.int .i64 1))))]) .ret) .skip)) (.seq (.reg [.mk none (.env 14) (.mov (.mv (.slot 0))), .mk none (.env 15) (.mov (.mv (.slot 1))), .mk none (.env 16) (.call 32 [(.env 14), (.env 15)]), .mk none (.slot 5) (.mov (.mv (.env 16)))]) (.seq (.block 0 (.seq (.reg [.mk none (.env 18) (.mov (.mv (.slot 5))), .mk none (.env 19) (.mov (.mv (.slot 0))), .mk none (.env 20) (.mov (.lenv (.env 19))), .mk none (.env 21) (.mov (.bin .lss .no (.env 18) (.env 20))), .mk none (.env 22) (.mov (.mv (.env 21))), .mk (some ((.env 22), true)) (.env 23) (.mov (.mv (.slot 0))), .mk (some ((.env 22), true)) (.env 24) (.mov (.mv (.slot 5))), .mk (some ((.env 22), true)) (.env 25) (.mov (.iaddr 3 (.env 23) (.env 24))), .mk (some ((.env 22), true)) (.env 26) (.mov (.faddr 0 (.env 25))), .mk (some ((.env 22), true)) (.env 27) (.mov (.ld1 (.env 26))), .mk (some ((.env 22), true)) (.env 28) (.mov (.mv (.slot 1))), .mk (some ((.env 22), true)) (.env 29) (.mov (.bin .eql .no (.env 27) (.env 28))), .mk none (.env 30) (.mov (.pick (.env 22) (.env 29) (.const (.bool false)))), .mk none (.slot 9) (.mov (.mv (.env 30)))]) (.cond (.slot 9) (.seq (.reg [.mk none (.env 31) (.mov (.mv (.slot 0))), .mk none (.env 32) (.mov (.mv (.slot 5))), .mk none (.env 33) (.mov (.iaddr 3 (.env 31) (.env 32))), .mk none (.env 34) (.mov (.faddr 1 (.env 33))), .mk none (.env 35) (.mov (.ldn 2 (.env 34))), .mk none .none (.eff (.store 2 (.slot 2) (.env 35))), .mk none (.slot 3) (.mov (.mv (.const (.bool true)))), .mk none (.slot 4) (.mov (.mv (.const (.int .i64 0))))]) .ret) (.seq (.reg [.mk none (.env 37) (.mov (.mv (.slot 5))), .mk none (.env 38) (.mov (.bin .eql .no (.env 37) (.const (.int .i64 0)))), .mk none (.env 39) (.mov (.mv (.env 38))), .mk (some ((.env 39), false)) (.env 40) (.mov (.mv (.slot 5))), .mk (some ((.env 39), false)) (.env 41) (.mov (.mv (.slot 0))), .mk (some ((.env 39), false)) (.env 42) (.mov (.lenv (.env 41))), .mk (some ((.env 39), false)) (.env 43) (.mov (.bin .eql .no (.env 40) (.env 42))), .mk none (.env 44) (.mov (.pick (.env 39) (.const (.bool true)) (.env 43))), .mk none (.slot 10) (.mov (.mv (.env 44)))]) (.cond (.slot 10) (.seq (.reg [.mk none (.env 45) (.mov (.bld [(.int .i64 0), (.int .i64 0)] [])), .mk none .none (.eff (.store 2 (.slot 2) (.env 45))), .mk none (.slot 3) (.mov (.mv (.const (.bool false)))), .mk none (.slot 4) (.mov (.mv (.const (.int .i64 0))))]) .ret) .skip))))) (.seq (.dreg [(.mk none (.env 47) (.mov (.mv (.slot 0))), []), (.mk none (.env 48) (.mov (.mv (.slot 5))), []), (.mk none (.env 49) (.mov (.bin .sub .no (.env 48) (.const (.int .i64 1)))), []), (.mk none (.env 50) (.mov (.iaddr 3 (.env 47) (.env 49))), []), (.mk none (.env 51) (.mov (.ldn 3 (.env 50))), []), (.mk none (.env 52) (.mov (.mv (.slot 0))), []), (.mk none (.env 53) (.mov (.mv (.slot 5))), []), (.mk none (.env 54) (.mov (.iaddr 3 (.env 52) (.env 53))), []), (.mk none (.env 55) (.mov (.ldn 3 (.env 54))), []), (.mk none (.env 56) (.mov (.mv (.slot 1))), []), (.mk none (.slot 6) (.eff (.alloc [(.int .i64 0), (.int .i64 0)])), [0, 1, 2, 3, 4, 5, 6, 7, 8, 9]), (.mk none (.env 57) (.call 33 [(.env 51), (.env 55), (.env 56)]), [10]), (.mk none (.env 46) (.mov (.mv (.env 57))), []), (.mk none (.env 58) (.mov (.ext 0 (.env 46))), []), (.mk none (.env 59) (.mov (.ext 1 (.env 46))), []), (.mk none .none (.eff (.store 2 (.slot 6) (.env 58))), [14]), (.mk none (.slot 7) (.mov (.mv (.env 59))), [])]) (.seq (.reg [.mk none (.env 60) (.mov (.ldn 2 (.slot 6))), .mk none (.env 61) (.mov (.mv (.slot 7))), .mk none (.env 62) (.mov (.bin .eql .no (.env 61) (.const (.int .i64 0)))), .mk none (.env 63) (.mov (.mv (.slot 7))), .mk none .none (.eff (.store 2 (.slot 2) (.env 60))), .mk none (.slot 3) (.mov (.mv (.env 62))), .mk none (.slot 4) (.mov (.mv (.env 63)))]) .ret)))))), [.celln 2 (.slot 2), .slot (.slot 3), .slot (.slot 4)]⟩
theorem newF_i64 (n d : Int) : I64Q (newF n d).1 := by
  unfold newF
  split
  · exact ⟨⟨by decide, by decide⟩, ⟨by decide, by decide⟩⟩
  · split
    · exact ⟨⟨by decide, by decide⟩, ⟨by decide, by decide⟩⟩
    · rename_i h1 h2
      have h3 : n.natAbs / gq n d ≤ 2147483647 := Nat.le_of_not_lt fun q => h2 (.inl q)
      have h4 : d.natAbs / gq n d ≤ 2147483647 := Nat.le_of_not_lt fun q => h2 (.inr q)
      generalize n.natAbs / gq n d = A at *
      generalize d.natAbs / gq n d = B at *
      refine ⟨?_, ⟨by simp only; omega, by simp only; omega⟩⟩
      simp only
      split
      · exact ⟨by omega, by omega⟩
      · exact ⟨by omega, by omega⟩
theorem zero_i64 : I64Q (0, 0) := ⟨⟨by decide, by decide⟩, ⟨by decide, by decide⟩⟩
theorem addF_i64 (a b : QQ) : I64Q (addF a b).1 := by unfold addF; split; exact newF_i64 _ _; exact zero_i64
theorem subF_i64 (a b : QQ) : I64Q (subF a b).1 := by unfold subF; split; exact newF_i64 _ _; exact zero_i64
theorem mulF_i64 (a b : QQ) : I64Q (mulF a b).1 := by unfold mulF; split; exact newF_i64 _ _; exact zero_i64
theorem divF_i64 (a b : QQ) : I64Q (divF a b).1 := by unfold divF; split; exact newF_i64 _ _; exact zero_i64
def betF (a b : SM) (t : Int) : QQ × Int :=
  if b.t ≤ a.t ∨ t < a.t ∨ b.t < t ∨ rightF a.q = false ∨ rightF b.q = false then ((0, 0), 1)
  else if t = a.t then (a.q, 0) else if t = b.t then (b.q, 0)
  else if (subF b.q a.q).2 ≠ 0 then ((0, 0), (subF b.q a.q).2)
  else if (newF (t - a.t) (b.t - a.t)).2 ≠ 0 then ((0, 0), (newF (t - a.t) (b.t - a.t)).2)
  else if (mulF (subF b.q a.q).1 (newF (t - a.t) (b.t - a.t)).1).2 ≠ 0 then ((0, 0), (mulF (subF b.q a.q).1 (newF (t - a.t) (b.t - a.t)).1).2)
  else addF (mulF (subF b.q a.q).1 (newF (t - a.t) (b.t - a.t)).1).1 a.q
section
variable {X : Type} {E : Nat → Option (Ent X)}
set_option maxHeartbeats 2000000 in
theorem between_ok (hE : ∀ f e, E f = some e → e.plain) (T : QaS E) (hf : E 33 = some (.bc b_lerpBetween)) {h : Hp X} {a b : SM} {t0 : Int} (ha : I64Q a.q) (hb : I64Q b.q) (hat : 0 ≤ a.t ∧ a.t ≤ 4294967295) (hbt : 0 ≤ b.t ∧ b.t ≤ 4294967295) :
    WF (lim E) 33 [.agg (sc a), .agg (sc b), .int .i64 t0] h fun x h' => Keep NoB h h' ∧ x = qe (betF a b t0) := by
  refine wf_bc hE hf rfl ?_
  simp only [b_lerpBetween, List.map, getS]
  obtain ⟨bA, bB, bC, kp, hn3⟩ := box3 h (sc a) (sc b) [.int .i64 0, .int .i64 0]
  have ho : ∀ {s : SM}, allOne (sc s) = true := fun {s} => rfl
  have hC : ((h.push (.rw (sc a))).push (.rw (sc b))).n = h.n + 2 := rfl
  have hBn : (h.push (.rw (sc a))).n = h.n + 1 := rfl
  have fin0 : ∀ {hh : Hp X} (K : Keep NoB h hh) {q : QQ}, Keep NoB h (hh.put ((h.push (.rw (sc a))).push (.rw (sc b))).n (.rw [.int .i64 q.1, .int .i64 q.2])) := fun {hh} K {q} =>
    K.own (Keep.put _ _ _ (S := OneB (((h.push (.rw (sc a))).push (.rw (sc b))).n)) rfl) (fun k q => by have q : k = h.n + 2 := q; omega)
  repeat first|(refine BG ?_;first|(refine BH ?_;first|(refine BI ?_;refine BM ?_)|(refine BJ ?_;first|refine BN ?_|refine BO ?_)|refine BP ?_)|(refine BK ?_;first|refine BS rfl rfl ?_|refine BT rfl rfl ?_|refine BU rfl ?_)|(refine BL ?_;first|refine BW (ef_box rfl ho) ?_|refine BQ ?_)|(refine BR ?_;try simp only [setS]))|refine AA ?_|refine AC ?_|refine AD ?_|refine AE ?_|refine AF rfl rfl ?_|refine AG rfl rfl ?_|refine AH ?_|refine AI ?_|refine AJ ?_|refine AK ?_|refine AL ?_|refine AM ?_|refine AN ?_|refine AO ?_|refine AP ?_|refine AQ rfl ?_|refine AR ?_|refine AS ?_|refine AT rfl ?_|refine AU rfl ?_
  generalize ((h.push (.rw (sc a))).push (.rw (sc b))).push (.rw [.int .i64 0, .int .i64 0]) = h3 at *
  have z2 : (1 : Nat) + 2 ≤ 3 := by decide
  by_cases c1 : b.t ≤ a.t
  · have e : betF a b t0 = ((0, 0), 1) := by unfold betF; rw [if_pos (.inl c1)]
    rw [e]
    repeat first|(refine BG ?_;first|(refine BH ?_;first|(refine BI ?_;refine BM ?_)|(refine BJ ?_;first|refine BN ?_|refine BO ?_)|refine BV (v_bx bA rfl rfl) ?_|refine BV (v_bx bB rfl rfl) ?_|refine BP ?_)|(refine BK ?_;first|refine BS rfl rfl ?_|refine BT rfl rfl ?_|refine BU rfl ?_)|(refine BL ?_;first|refine BW (ef_bxn bC rfl rfl rfl rfl (Nat.le_refl _)) ?_|refine BQ ?_)|(refine BR ?_;try simp only [setS]))|refine AA ?_|refine AC ?_|refine AD ?_|refine AE ?_|refine AF rfl rfl ?_|refine AG rfl rfl ?_|refine AH ?_|refine AI ?_|refine AJ ?_|refine AK ?_|refine AL ?_|refine AM ?_|refine AN ?_|refine AO ?_|refine AP ?_|refine AQ rfl ?_|refine AR ?_|refine AS ?_|refine AT rfl ?_|refine AU rfl ?_
    exact fin_q (q := (0, 0)) (er := 1) bC.put rfl rfl ⟨fin0 kp (q := (0, 0)), rfl⟩
  by_cases c2 : t0 < a.t
  · have e : betF a b t0 = ((0, 0), 1) := by unfold betF; rw [if_pos (.inr (.inl c2))]
    rw [e]
    repeat first|(refine BG ?_;first|(refine BH ?_;first|(refine BI ?_;refine BM ?_)|(refine BJ ?_;first|refine BN ?_|refine BO ?_)|refine BV (v_bx bA rfl rfl) ?_|refine BV (v_bx bB rfl rfl) ?_|refine BP ?_)|(refine BK ?_;first|refine BS rfl rfl ?_|refine BT rfl rfl ?_|refine BU rfl ?_)|(refine BL ?_;first|refine BW (ef_bxn bC rfl rfl rfl rfl (Nat.le_refl _)) ?_|refine BQ ?_)|(refine BR ?_;try simp only [setS]))|refine AA ?_|refine AC ?_|refine AD ?_|refine AE ?_|refine AF rfl rfl ?_|refine AG rfl rfl ?_|refine AH ?_|refine AI ?_|refine AJ ?_|refine AK ?_|refine AL ?_|refine AM ?_|refine AN ?_|refine AO ?_|refine AP ?_|refine AQ rfl ?_|refine AR ?_|refine AS ?_|refine AT rfl ?_|refine AU rfl ?_
    exact fin_q (q := (0, 0)) (er := 1) bC.put rfl rfl ⟨fin0 kp (q := (0, 0)), rfl⟩
  by_cases c3 : b.t < t0
  · have e : betF a b t0 = ((0, 0), 1) := by unfold betF; rw [if_pos (.inr (.inr (.inl c3)))]
    rw [e]
    repeat first|(refine BG ?_;first|(refine BH ?_;first|(refine BI ?_;refine BM ?_)|(refine BJ ?_;first|refine BN ?_|refine BO ?_)|refine BV (v_bx bA rfl rfl) ?_|refine BV (v_bx bB rfl rfl) ?_|refine BP ?_)|(refine BK ?_;first|refine BS rfl rfl ?_|refine BT rfl rfl ?_|refine BU rfl ?_)|(refine BL ?_;first|refine BW (ef_bxn bC rfl rfl rfl rfl (Nat.le_refl _)) ?_|refine BQ ?_)|(refine BR ?_;try simp only [setS]))|refine AA ?_|refine AC ?_|refine AD ?_|refine AE ?_|refine AF rfl rfl ?_|refine AG rfl rfl ?_|refine AH ?_|refine AI ?_|refine AJ ?_|refine AK ?_|refine AL ?_|refine AM ?_|refine AN ?_|refine AO ?_|refine AP ?_|refine AQ rfl ?_|refine AR ?_|refine AS ?_|refine AT rfl ?_|refine AU rfl ?_
    exact fin_q (q := (0, 0)) (er := 1) bC.put rfl rfl ⟨fin0 kp (q := (0, 0)), rfl⟩
  repeat first|(refine BG ?_;first|(refine BH ?_;first|(refine BI ?_;refine BM ?_)|(refine BJ ?_;first|refine BN ?_|refine BO ?_)|refine BV (v_bx bA rfl rfl) ?_|refine BV (v_bx bB rfl rfl) ?_|refine BV (v_bxn bA rfl z2) ?_|refine BP ?_)|(refine BK ?_;first|refine BS rfl rfl ?_|refine BT rfl rfl ?_|refine BU rfl ?_)|(refine BL ?_;first|refine BQ ?_)|(refine BR ?_;try simp only [setS]))|refine AA ?_|refine AC ?_|refine AD ?_|refine AE ?_|refine AF rfl rfl ?_|refine AG rfl rfl ?_|refine AH ?_|refine AI ?_|refine AJ ?_|refine AK ?_|refine AL ?_|refine AM ?_|refine AN ?_|refine AO ?_|refine AP ?_|refine AQ rfl ?_|refine AR ?_|refine AS ?_|refine AT rfl ?_|refine AU rfl ?_
  refine wr_call_e rfl ((rightq_ok hE T ha).mono fun x h4 ⟨k4, e4⟩ => ?_)
  subst e4
  have bA := bA.up k4
  have bB := bB.up k4
  have bC := bC.up k4
  have K4 := kp.and k4
  rcases Bool.eq_false_or_eq_true (rightF a.q) with hra | hra
  case' inr =>
    have e : betF a b t0 = ((0, 0), 1) := by unfold betF; rw [if_pos (.inr (.inr (.inr (.inl hra))))]
    rw [e, hra]
    repeat first|(refine BG ?_;first|(refine BH ?_;first|(refine BI ?_;refine BM ?_)|(refine BJ ?_;first|refine BN ?_|refine BO ?_)|refine BV (v_notb rfl) ?_|refine BP ?_)|(refine BK ?_;first|refine BS rfl rfl ?_|refine BT rfl rfl ?_|refine BU rfl ?_)|(refine BL ?_;first|refine BW (ef_bxn bC rfl rfl rfl rfl (Nat.le_refl _)) ?_|refine BQ ?_)|(refine BR ?_;try simp only [setS]))|refine AA ?_|refine AC ?_|refine AD ?_|refine AE ?_|refine AF rfl rfl ?_|refine AG rfl rfl ?_|refine AH ?_|refine AI ?_|refine AJ ?_|refine AK ?_|refine AL ?_|refine AM ?_|refine AN ?_|refine AO ?_|refine AP ?_|refine AQ rfl ?_|refine AR ?_|refine AS ?_|refine AT rfl ?_|refine AU rfl ?_
    exact fin_q (q := (0, 0)) (er := 1) bC.put rfl rfl ⟨fin0 K4 (q := (0, 0)), rfl⟩
  rw [hra]
  repeat first|(refine BG ?_;first|(refine BH ?_;first|(refine BI ?_;refine BM ?_)|(refine BJ ?_;first|refine BN ?_|refine BO ?_)|refine BV (v_notb rfl) ?_|refine BV (v_bxn bB rfl z2) ?_|refine BP ?_)|(refine BK ?_;first|refine BS rfl rfl ?_|refine BT rfl rfl ?_|refine BU rfl ?_)|(refine BL ?_;first|refine BQ ?_)|(refine BR ?_;try simp only [setS]))|refine AA ?_|refine AC ?_|refine AD ?_|refine AE ?_|refine AF rfl rfl ?_|refine AG rfl rfl ?_|refine AH ?_|refine AI ?_|refine AJ ?_|refine AK ?_|refine AL ?_|refine AM ?_|refine AN ?_|refine AO ?_|refine AP ?_|refine AQ rfl ?_|refine AR ?_|refine AS ?_|refine AT rfl ?_|refine AU rfl ?_
  refine wr_call_e rfl ((rightq_ok hE T hb).mono fun x h5 ⟨k5, e5⟩ => ?_)
  subst e5
  have bA := bA.up k5
  have bB := bB.up k5
  have bC := bC.up k5
  have K5 := K4.and k5
  rcases Bool.eq_false_or_eq_true (rightF b.q) with hrb | hrb
  case' inr =>
    have e : betF a b t0 = ((0, 0), 1) := by unfold betF; rw [if_pos (.inr (.inr (.inr (.inr hrb))))]
    rw [e, hrb]
    repeat first|(refine BG ?_;first|(refine BH ?_;first|(refine BI ?_;refine BM ?_)|(refine BJ ?_;first|refine BN ?_|refine BO ?_)|refine BV (v_notb rfl) ?_|refine BP ?_)|(refine BK ?_;first|refine BS rfl rfl ?_|refine BT rfl rfl ?_|refine BU rfl ?_)|(refine BL ?_;first|refine BW (ef_bxn bC rfl rfl rfl rfl (Nat.le_refl _)) ?_|refine BQ ?_)|(refine BR ?_;try simp only [setS]))|refine AA ?_|refine AC ?_|refine AD ?_|refine AE ?_|refine AF rfl rfl ?_|refine AG rfl rfl ?_|refine AH ?_|refine AI ?_|refine AJ ?_|refine AK ?_|refine AL ?_|refine AM ?_|refine AN ?_|refine AO ?_|refine AP ?_|refine AQ rfl ?_|refine AR ?_|refine AS ?_|refine AT rfl ?_|refine AU rfl ?_
    exact fin_q (q := (0, 0)) (er := 1) bC.put rfl rfl ⟨fin0 K5 (q := (0, 0)), rfl⟩
  rw [hrb]
  have nb : ¬ (b.t ≤ a.t ∨ t0 < a.t ∨ b.t < t0 ∨ rightF a.q = false ∨ rightF b.q = false) := by
    rintro (q | q | q | q | q)
    · exact c1 q
    · exact c2 q
    · exact c3 q
    · rw [hra] at q; cases q
    · rw [hrb] at q; cases q
  by_cases c4 : t0 = a.t
  · have e : betF a b t0 = (a.q, 0) := by unfold betF; rw [if_neg nb, if_pos c4]
    rw [e]
    repeat first|(refine BG ?_;first|(refine BH ?_;first|(refine BI ?_;refine BM ?_)|(refine BJ ?_;first|refine BN ?_|refine BO ?_)|refine BV (v_notb rfl) ?_|refine BV (v_bx bA rfl rfl) ?_|refine BV (v_bxn bA rfl z2) ?_|refine BP ?_)|(refine BK ?_;first|refine BS rfl rfl ?_|refine BT rfl rfl ?_|refine BU rfl ?_)|(refine BL ?_;first|refine BW (ef_bxn bC rfl rfl rfl rfl (Nat.le_refl _)) ?_|refine BQ ?_)|(refine BR ?_;try simp only [setS]))|refine AA ?_|refine AC ?_|refine AD ?_|refine AE ?_|refine AF rfl rfl ?_|refine AG rfl rfl ?_|refine AH ?_|refine AI ?_|refine AJ ?_|refine AK ?_|refine AL ?_|refine AM ?_|refine AN ?_|refine AO ?_|refine AP ?_|refine AQ rfl ?_|refine AR ?_|refine AS ?_|refine AT rfl ?_|refine AU rfl ?_
    exact fin_q (q := a.q) (er := 0) bC.put rfl rfl ⟨fin0 K5 (q := a.q), rfl⟩
  by_cases c5 : t0 = b.t
  · have e : betF a b t0 = (b.q, 0) := by unfold betF; rw [if_neg nb, if_neg c4, if_pos c5]
    rw [e]
    repeat first|(refine BG ?_;first|(refine BH ?_;first|(refine BI ?_;refine BM ?_)|(refine BJ ?_;first|refine BN ?_|refine BO ?_)|refine BV (v_notb rfl) ?_|refine BV (v_bx bA rfl rfl) ?_|refine BV (v_bx bB rfl rfl) ?_|refine BV (v_bxn bB rfl z2) ?_|refine BP ?_)|(refine BK ?_;first|refine BS rfl rfl ?_|refine BT rfl rfl ?_|refine BU rfl ?_)|(refine BL ?_;first|refine BW (ef_bxn bC rfl rfl rfl rfl (Nat.le_refl _)) ?_|refine BQ ?_)|(refine BR ?_;try simp only [setS]))|refine AA ?_|refine AC ?_|refine AD ?_|refine AE ?_|refine AF rfl rfl ?_|refine AG rfl rfl ?_|refine AH ?_|refine AI ?_|refine AJ ?_|refine AK ?_|refine AL ?_|refine AM ?_|refine AN ?_|refine AO ?_|refine AP ?_|refine AQ rfl ?_|refine AR ?_|refine AS ?_|refine AT rfl ?_|refine AU rfl ?_
    exact fin_q (q := b.q) (er := 0) bC.put rfl rfl ⟨fin0 K5 (q := b.q), rfl⟩
  have eb : betF a b t0 = if (subF b.q a.q).2 ≠ 0 then ((0, 0), (subF b.q a.q).2)
      else if (newF (t0 - a.t) (b.t - a.t)).2 ≠ 0 then ((0, 0), (newF (t0 - a.t) (b.t - a.t)).2)
      else if (mulF (subF b.q a.q).1 (newF (t0 - a.t) (b.t - a.t)).1).2 ≠ 0 then ((0, 0), (mulF (subF b.q a.q).1 (newF (t0 - a.t) (b.t - a.t)).1).2)
      else addF (mulF (subF b.q a.q).1 (newF (t0 - a.t) (b.t - a.t)).1).1 a.q := by unfold betF; rw [if_neg nb, if_neg c4, if_neg c5]
  rw [eb]
  repeat first|(refine BG ?_;first|(refine BH ?_;first|(refine BI ?_;refine BM ?_)|(refine BJ ?_;first|refine BN ?_|refine BO ?_)|refine BV (v_notb rfl) ?_|refine BV (v_bx bA rfl rfl) ?_|refine BV (v_bx bB rfl rfl) ?_|refine BV (v_bxn bA rfl z2) ?_|refine BV (v_bxn bB rfl z2) ?_|refine BP ?_)|(refine BK ?_;first|refine BS rfl rfl ?_|refine BT rfl rfl ?_|refine BU rfl ?_)|(refine BL ?_;first|refine BQ ?_)|(refine BR ?_;try simp only [setS]))|refine AA ?_|refine AC ?_|refine AD ?_|refine AE ?_|refine AF rfl rfl ?_|refine AG rfl rfl ?_|refine AH ?_|refine AI ?_|refine AJ ?_|refine AK ?_|refine AL ?_|refine AM ?_|refine AN ?_|refine AO ?_|refine AP ?_|refine AQ rfl ?_|refine AR ?_|refine AS ?_|refine AT rfl ?_|refine AU rfl ?_
  refine wr_call_e rfl ((subq_ok hE T hb ha).mono fun x h6 ⟨k6, e6⟩ => ?_)
  subst e6
  have bA := bA.up k6
  have bB := bB.up k6
  have bC := bC.up k6
  have K6 := K5.and k6
  have i6 := subF_i64 b.q a.q
  generalize subF b.q a.q = r6 at *
  obtain ⟨⟨n6, m6⟩, er6⟩ := r6
  have bD : Bx (h6.push (.rw [.int .i64 0, .int .i64 0])) h6.n [.int .i64 0, .int .i64 0] := bx_push
  have k7a : Keep NoB h6 (h6.push (.rw [.int .i64 0, .int .i64 0])) := Keep.push _ _ _
  repeat first|(refine BG ?_;first|(refine BH ?_;first|(refine BI ?_;refine BM ?_)|(refine BJ ?_;first|refine BN ?_|refine BO ?_)|refine BP ?_)|(refine BK ?_;first|refine BS rfl rfl ?_|refine BT rfl rfl ?_|refine BU rfl ?_)|(refine BL ?_;first|refine BW (ef_bxn bD rfl rfl rfl rfl (Nat.le_refl _)) ?_|refine BQ ?_)|(refine BR ?_;try simp only [setS]))|refine AA ?_|refine AC ?_|refine AD ?_|refine AE ?_|refine AF rfl rfl ?_|refine AG rfl rfl ?_|refine AH ?_|refine AI ?_|refine AJ ?_|refine AK ?_|refine AL ?_|refine AM ?_|refine AN ?_|refine AO ?_|refine AP ?_|refine AQ rfl ?_|refine AR ?_|refine AS ?_|refine AT rfl ?_|refine AU rfl ?_
  refine wb_hq (h' := (h6.push (.rw [.int .i64 0, .int .i64 0])).put h6.n (.rw [.int .i64 n6, .int .i64 m6])) rfl ?_
  have k7 := k7a.own (Keep.put (h6.push (.rw [.int .i64 0, .int .i64 0])) h6.n (.rw [.int .i64 n6, .int .i64 m6]) (S := OneB h6.n) rfl) (fun k q => Nat.le_of_eq q.symm)
  have bD : Bx ((h6.push (.rw [.int .i64 0, .int .i64 0])).put h6.n (.rw [.int .i64 n6, .int .i64 m6])) h6.n [.int .i64 n6, .int .i64 m6] := bD.put
  have bA := bA.up k7
  have bB := bB.up k7
  have bC := bC.up k7
  have K7 := K6.and k7
  clear k7a
  generalize (h6.push (.rw [.int .i64 0, .int .i64 0])).put h6.n (.rw [.int .i64 n6, .int .i64 m6]) = h7 at *
  by_cases d6 : er6 = 0
  case' neg =>
    rw [if_pos d6, show (er6 != 0) = true by simp [d6]]
    repeat first|(refine BG ?_;first|(refine BH ?_;first|(refine BI ?_;refine BM ?_)|(refine BJ ?_;first|refine BN ?_|refine BO ?_)|refine BP ?_)|(refine BK ?_;first|refine BS rfl rfl ?_|refine BT rfl rfl ?_|refine BU rfl ?_)|(refine BL ?_;first|refine BW (ef_bxn bC rfl rfl rfl rfl (Nat.le_refl _)) ?_|refine BQ ?_)|(refine BR ?_;try simp only [setS]))|refine AA ?_|refine AC ?_|refine AD ?_|refine AE ?_|refine AF rfl rfl ?_|refine AG rfl rfl ?_|refine AH ?_|refine AI ?_|refine AJ ?_|refine AK ?_|refine AL ?_|refine AM ?_|refine AN ?_|refine AO ?_|refine AP ?_|refine AQ rfl ?_|refine AR ?_|refine AS ?_|refine AT rfl ?_|refine AU rfl ?_
    exact fin_q (q := (0, 0)) (er := er6) bC.put rfl rfl ⟨fin0 K7 (q := (0, 0)), rfl⟩
  subst d6
  rw [if_neg (by decide)]
  repeat first|(refine BG ?_;first|(refine BH ?_;first|(refine BI ?_;refine BM ?_)|(refine BJ ?_;first|refine BN ?_|refine BO ?_)|refine BV (v_bx bA rfl rfl) ?_|refine BV (v_bx bB rfl rfl) ?_|refine BP ?_)|(refine BK ?_;first|refine BS rfl rfl ?_|refine BT rfl rfl ?_|refine BU rfl ?_)|(refine BL ?_;first|refine BQ ?_)|(refine BR ?_;try simp only [setS]))|refine AA ?_|refine AC ?_|refine AD ?_|refine AE ?_|refine AF rfl rfl ?_|refine AG rfl rfl ?_|refine AH ?_|refine AI ?_|refine AJ ?_|refine AK ?_|refine AL ?_|refine AM ?_|refine AN ?_|refine AO ?_|refine AP ?_|refine AQ rfl ?_|refine AR ?_|refine AS ?_|refine AT rfl ?_|refine AU rfl ?_
  refine wr_call_e rfl ((newq_ok hE T.toQaT (n := t0 - a.t) (d := b.t - a.t) ⟨by omega, by omega⟩ ⟨by omega, by omega⟩).mono fun x h8 ⟨k8, e8⟩ => ?_)
  subst e8
  have bA := bA.up k8
  have bC := bC.up k8
  have bD := bD.up k8
  have K8 := K7.and k8
  have i8 := newF_i64 (t0 - a.t) (b.t - a.t)
  generalize newF (t0 - a.t) (b.t - a.t) = r8 at *
  obtain ⟨⟨n8, m8⟩, er8⟩ := r8
  have bE : Bx (h8.push (.rw [.int .i64 0, .int .i64 0])) h8.n [.int .i64 0, .int .i64 0] := bx_push
  have k9a : Keep NoB h8 (h8.push (.rw [.int .i64 0, .int .i64 0])) := Keep.push _ _ _
  repeat first|(refine BG ?_;first|(refine BH ?_;first|(refine BI ?_;refine BM ?_)|(refine BJ ?_;first|refine BN ?_|refine BO ?_)|refine BP ?_)|(refine BK ?_;first|refine BS rfl rfl ?_|refine BT rfl rfl ?_|refine BU rfl ?_)|(refine BL ?_;first|refine BW (ef_bxn bE rfl rfl rfl rfl (Nat.le_refl _)) ?_|refine BQ ?_)|(refine BR ?_;try simp only [setS]))|refine AA ?_|refine AC ?_|refine AD ?_|refine AE ?_|refine AF rfl rfl ?_|refine AG rfl rfl ?_|refine AH ?_|refine AI ?_|refine AJ ?_|refine AK ?_|refine AL ?_|refine AM ?_|refine AN ?_|refine AO ?_|refine AP ?_|refine AQ rfl ?_|refine AR ?_|refine AS ?_|refine AT rfl ?_|refine AU rfl ?_
  refine wb_hq (h' := (h8.push (.rw [.int .i64 0, .int .i64 0])).put h8.n (.rw [.int .i64 n8, .int .i64 m8])) rfl ?_
  have k9 := k9a.own (Keep.put (h8.push (.rw [.int .i64 0, .int .i64 0])) h8.n (.rw [.int .i64 n8, .int .i64 m8]) (S := OneB h8.n) rfl) (fun k q => Nat.le_of_eq q.symm)
  have bE : Bx ((h8.push (.rw [.int .i64 0, .int .i64 0])).put h8.n (.rw [.int .i64 n8, .int .i64 m8])) h8.n [.int .i64 n8, .int .i64 m8] := bE.put
  have bA := bA.up k9
  have bC := bC.up k9
  have bD := bD.up k9
  have K9 := K8.and k9
  clear k9a
  generalize (h8.push (.rw [.int .i64 0, .int .i64 0])).put h8.n (.rw [.int .i64 n8, .int .i64 m8]) = h9 at *
  by_cases d8 : er8 = 0
  case' neg =>
    rw [if_pos d8, show (er8 != 0) = true by simp [d8]]
    repeat first|(refine BG ?_;first|(refine BH ?_;first|(refine BI ?_;refine BM ?_)|(refine BJ ?_;first|refine BN ?_|refine BO ?_)|refine BP ?_)|(refine BK ?_;first|refine BS rfl rfl ?_|refine BT rfl rfl ?_|refine BU rfl ?_)|(refine BL ?_;first|refine BW (ef_bxn bC rfl rfl rfl rfl (Nat.le_refl _)) ?_|refine BQ ?_)|(refine BR ?_;try simp only [setS]))|refine AA ?_|refine AC ?_|refine AD ?_|refine AE ?_|refine AF rfl rfl ?_|refine AG rfl rfl ?_|refine AH ?_|refine AI ?_|refine AJ ?_|refine AK ?_|refine AL ?_|refine AM ?_|refine AN ?_|refine AO ?_|refine AP ?_|refine AQ rfl ?_|refine AR ?_|refine AS ?_|refine AT rfl ?_|refine AU rfl ?_
    exact fin_q (q := (0, 0)) (er := er8) bC.put rfl rfl ⟨fin0 K9 (q := (0, 0)), rfl⟩
  subst d8
  rw [if_neg (by decide)]
  repeat first|(refine BG ?_;first|(refine BH ?_;first|(refine BI ?_;refine BM ?_)|(refine BJ ?_;first|refine BN ?_|refine BO ?_)|refine BV (v_bxn bD rfl (Nat.le_refl _)) ?_|refine BV (v_bxn bE rfl (Nat.le_refl _)) ?_|refine BP ?_)|(refine BK ?_;first|refine BS rfl rfl ?_|refine BT rfl rfl ?_|refine BU rfl ?_)|(refine BL ?_;first|refine BQ ?_)|(refine BR ?_;try simp only [setS]))|refine AA ?_|refine AC ?_|refine AD ?_|refine AE ?_|refine AF rfl rfl ?_|refine AG rfl rfl ?_|refine AH ?_|refine AI ?_|refine AJ ?_|refine AK ?_|refine AL ?_|refine AM ?_|refine AN ?_|refine AO ?_|refine AP ?_|refine AQ rfl ?_|refine AR ?_|refine AS ?_|refine AT rfl ?_|refine AU rfl ?_
  refine wr_call_e rfl ((mulq_ok hE T i6 i8).mono fun x h10 ⟨k10, e10⟩ => ?_)
  subst e10
  have bA := bA.up k10
  have bC := bC.up k10
  have K10 := K9.and k10
  have i10 := mulF_i64 (n6, m6) (n8, m8)
  simp only
  generalize mulF (n6, m6) (n8, m8) = r10 at *
  obtain ⟨⟨n10, m10⟩, er10⟩ := r10
  have bF : Bx (h10.push (.rw [.int .i64 0, .int .i64 0])) h10.n [.int .i64 0, .int .i64 0] := bx_push
  have k11a : Keep NoB h10 (h10.push (.rw [.int .i64 0, .int .i64 0])) := Keep.push _ _ _
  repeat first|(refine BG ?_;first|(refine BH ?_;first|(refine BI ?_;refine BM ?_)|(refine BJ ?_;first|refine BN ?_|refine BO ?_)|refine BP ?_)|(refine BK ?_;first|refine BS rfl rfl ?_|refine BT rfl rfl ?_|refine BU rfl ?_)|(refine BL ?_;first|refine BW (ef_bxn bF rfl rfl rfl rfl (Nat.le_refl _)) ?_|refine BQ ?_)|(refine BR ?_;try simp only [setS]))|refine AA ?_|refine AC ?_|refine AD ?_|refine AE ?_|refine AF rfl rfl ?_|refine AG rfl rfl ?_|refine AH ?_|refine AI ?_|refine AJ ?_|refine AK ?_|refine AL ?_|refine AM ?_|refine AN ?_|refine AO ?_|refine AP ?_|refine AQ rfl ?_|refine AR ?_|refine AS ?_|refine AT rfl ?_|refine AU rfl ?_
  refine wb_hq (h' := (h10.push (.rw [.int .i64 0, .int .i64 0])).put h10.n (.rw [.int .i64 n10, .int .i64 m10])) rfl ?_
  have k11 := k11a.own (Keep.put (h10.push (.rw [.int .i64 0, .int .i64 0])) h10.n (.rw [.int .i64 n10, .int .i64 m10]) (S := OneB h10.n) rfl) (fun k q => Nat.le_of_eq q.symm)
  have bF : Bx ((h10.push (.rw [.int .i64 0, .int .i64 0])).put h10.n (.rw [.int .i64 n10, .int .i64 m10])) h10.n [.int .i64 n10, .int .i64 m10] := bF.put
  have bA := bA.up k11
  have bC := bC.up k11
  have K11 := K10.and k11
  clear k11a
  generalize (h10.push (.rw [.int .i64 0, .int .i64 0])).put h10.n (.rw [.int .i64 n10, .int .i64 m10]) = h11 at *
  by_cases d10 : er10 = 0
  case' neg =>
    rw [if_pos d10, show (er10 != 0) = true by simp [d10]]
    repeat first|(refine BG ?_;first|(refine BH ?_;first|(refine BI ?_;refine BM ?_)|(refine BJ ?_;first|refine BN ?_|refine BO ?_)|refine BP ?_)|(refine BK ?_;first|refine BS rfl rfl ?_|refine BT rfl rfl ?_|refine BU rfl ?_)|(refine BL ?_;first|refine BW (ef_bxn bC rfl rfl rfl rfl (Nat.le_refl _)) ?_|refine BQ ?_)|(refine BR ?_;try simp only [setS]))|refine AA ?_|refine AC ?_|refine AD ?_|refine AE ?_|refine AF rfl rfl ?_|refine AG rfl rfl ?_|refine AH ?_|refine AI ?_|refine AJ ?_|refine AK ?_|refine AL ?_|refine AM ?_|refine AN ?_|refine AO ?_|refine AP ?_|refine AQ rfl ?_|refine AR ?_|refine AS ?_|refine AT rfl ?_|refine AU rfl ?_
    exact fin_q (q := (0, 0)) (er := er10) bC.put rfl rfl ⟨fin0 K11 (q := (0, 0)), rfl⟩
  subst d10
  rw [if_neg (by decide)]
  repeat first|(refine BG ?_;first|(refine BH ?_;first|(refine BI ?_;refine BM ?_)|(refine BJ ?_;first|refine BN ?_|refine BO ?_)|refine BV (v_bxn bF rfl (Nat.le_refl _)) ?_|refine BV (v_bxn bA rfl z2) ?_|refine BP ?_)|(refine BK ?_;first|refine BS rfl rfl ?_|refine BT rfl rfl ?_|refine BU rfl ?_)|(refine BL ?_;first|refine BQ ?_)|(refine BR ?_;try simp only [setS]))|refine AA ?_|refine AC ?_|refine AD ?_|refine AE ?_|refine AF rfl rfl ?_|refine AG rfl rfl ?_|refine AH ?_|refine AI ?_|refine AJ ?_|refine AK ?_|refine AL ?_|refine AM ?_|refine AN ?_|refine AO ?_|refine AP ?_|refine AQ rfl ?_|refine AR ?_|refine AS ?_|refine AT rfl ?_|refine AU rfl ?_
  refine wr_call_e rfl ((addq_ok hE T i10 ha).mono fun x h12 ⟨k12, e12⟩ => ?_)
  subst e12
  have bC := bC.up k12
  have K12 := K11.and k12
  simp only
  generalize addF (n10, m10) a.q = r12 at *
  obtain ⟨⟨n12, m12⟩, er12⟩ := r12
  repeat first|(refine BG ?_;first|(refine BH ?_;first|(refine BI ?_;refine BM ?_)|(refine BJ ?_;first|refine BN ?_|refine BO ?_)|refine BP ?_)|(refine BK ?_;first|refine BS rfl rfl ?_|refine BT rfl rfl ?_|refine BU rfl ?_)|(refine BL ?_;first|refine BW (ef_bxn bC rfl rfl rfl rfl (Nat.le_refl _)) ?_|refine BQ ?_)|(refine BR ?_;try simp only [setS]))|refine AA ?_|refine AC ?_|refine AD ?_|refine AE ?_|refine AF rfl rfl ?_|refine AG rfl rfl ?_|refine AH ?_|refine AI ?_|refine AJ ?_|refine AK ?_|refine AL ?_|refine AM ?_|refine AN ?_|refine AO ?_|refine AP ?_|refine AQ rfl ?_|refine AR ?_|refine AS ?_|refine AT rfl ?_|refine AU rfl ?_
  exact fin_q (q := (n12, m12)) (er := er12) bC.put rfl rfl ⟨fin0 K12 (q := (n12, m12)), rfl⟩
def atR (l : List SM) (t : Int) : (QQ × Bool) × Int :=
  match l[plF l t]? with
  | some s => if s.t = t then ((s.q, true), 0) else if plF l t = 0 then (((0, 0), false), 0) else (match l[plF l t - 1]? with
    | some a => (((betF a s t).1, decide ((betF a s t).2 = 0)), (betF a s t).2)
    | none => (((0, 0), false), 0))
  | none => (((0, 0), false), 0)
open Classical in
noncomputable def atF (l : List SM) (t : Int) : (QQ × Bool) × Int := if RightS l then atR l t else (((0, 0), false), 1)
def qat (r : (QQ × Bool) × Int) : AV := .tup [qv r.1.1, .bool r.1.2, .int .i64 r.2]
theorem fin_q3 {h : Hp X} {t : List AV} {g : Nat} {x y z : Od} {q : QQ} {b : Bool} {er : Int} {P : AV → Hp X → Prop} (bx : Bx h g [.int .i64 q.1, .int .i64 q.2]) (hx : x.ev [] t = .ptr g 0) (hy : y.ev [] t = .bool b) (hz : z.ev [] t = .int .i64 er) (hp : P (qat ((q, b), er)) h) : finQ [.celln 2 x, .slot y, .slot z] P (.ret t h) := by
  refine AT (l := [.agg [.int .i64 q.1, .int .i64 q.2], .bool b, .int .i64 er]) ?_ hp
  have h1 : (Rs.celln 2 x).ev t h = some (.agg [.int .i64 q.1, .int .i64 q.2]) := v_bxn bx hx (Nat.le_refl _)
  have h2 : (Rs.slot y).ev t h = some (.bool b) := congrArg some hy
  have h3 : (Rs.slot z).ev t h = some (.int .i64 er) := congrArg some hz
  simp only [resV, h1, h2, h3]
set_option maxHeartbeats 1000000 in
theorem lat_ok (hE : ∀ f e, E f = some e → e.plain) (T : QaS E) (hd : E 25 = some (.bc b_downRight)) (hpl : E 32 = some (.bc b_lerpPlace)) (hbt : E 33 = some (.bc b_lerpBetween)) (hf : E 16 = some (.bc b_lerpAt)) {h : Hp X} {v : AV} {l : List SM} (a : Ser h v l) (t0 : Int) :
    WF (lim E) 16 [v, .int .i64 t0] h fun x h' => Keep NoB h h' ∧ x = qat (atF l t0) := by
  refine wf_bc hE hf rfl ?_
  simp only [b_lerpAt, List.map, getS]
  have bx : Bx (h.push (.rw [.int .i64 0, .int .i64 0])) h.n [.int .i64 0, .int .i64 0] := bx_push
  have kp : Keep NoB h (h.push (.rw [.int .i64 0, .int .i64 0])) := Keep.push _ _ _
  have fin0 : ∀ {hh : Hp X} (K : Keep NoB h hh) {q : QQ}, Keep NoB h (hh.put h.n (.rw [.int .i64 q.1, .int .i64 q.2])) := fun {hh} K {q} =>
    K.own (Keep.put _ _ _ (S := OneB h.n) rfl) (fun k q => Nat.le_of_eq q.symm)
  repeat first|(refine BG ?_;first|(refine BH ?_;first|(refine BI ?_;refine BM ?_)|(refine BJ ?_;first|refine BN ?_|refine BO ?_)|refine BP ?_)|(refine BK ?_;first|refine BS rfl rfl ?_|refine BT rfl rfl ?_|refine BU rfl ?_)|(refine BL ?_;first|refine BQ ?_)|(refine BR ?_;try simp only [setS]))|refine AA ?_|refine AC ?_|refine AD ?_|refine AE ?_|refine AF rfl rfl ?_|refine AG rfl rfl ?_|refine AH ?_|refine AI ?_|refine AJ ?_|refine AK ?_|refine AL ?_|refine AM ?_|refine AN ?_|refine AO ?_|refine AP ?_|refine AQ rfl ?_|refine AR ?_|refine AS ?_|refine AT rfl ?_|refine AU rfl ?_
  refine wr_call_e rfl ((dright_ok hE T hd (a.up kp)).mono fun x h2 ⟨k2, b, e2, hb⟩ => ?_)
  subst e2
  have bx := bx.up k2
  have K2 := kp.and k2
  cases b with
  | false =>
    have hnr : ¬ RightS l := fun q => by have := hb.2 q; cases this
    have e : atF l t0 = (((0, 0), false), 1) := by unfold atF; rw [if_neg hnr]
    rw [e]
    repeat first|(refine BG ?_;first|(refine BH ?_;first|(refine BI ?_;refine BM ?_)|(refine BJ ?_;first|refine BN ?_|refine BO ?_)|refine BV (v_notb rfl) ?_|refine BP ?_)|(refine BK ?_;first|refine BS rfl rfl ?_|refine BT rfl rfl ?_|refine BU rfl ?_)|(refine BL ?_;first|refine BW (ef_bxn bx rfl rfl rfl rfl (Nat.le_refl _)) ?_|refine BQ ?_)|(refine BR ?_;try simp only [setS]))|refine AA ?_|refine AC ?_|refine AD ?_|refine AE ?_|refine AF rfl rfl ?_|refine AG rfl rfl ?_|refine AH ?_|refine AI ?_|refine AJ ?_|refine AK ?_|refine AL ?_|refine AM ?_|refine AN ?_|refine AO ?_|refine AP ?_|refine AQ rfl ?_|refine AR ?_|refine AS ?_|refine AT rfl ?_|refine AU rfl ?_
    exact fin_q3 (q := (0, 0)) (b := false) (er := 1) bx.put rfl rfl rfl ⟨fin0 K2 (q := (0, 0)), rfl⟩
  | true =>
    have hr : RightS l := hb.1 rfl
    have e : atF l t0 = atR l t0 := by unfold atF; rw [if_pos hr]
    rw [e]
    have a2 := a.up K2
    repeat first|(refine BG ?_;first|(refine BH ?_;first|(refine BI ?_;refine BM ?_)|(refine BJ ?_;first|refine BN ?_|refine BO ?_)|refine BV (v_notb rfl) ?_|refine BP ?_)|(refine BK ?_;first|refine BS rfl rfl ?_|refine BT rfl rfl ?_|refine BU rfl ?_)|(refine BL ?_;first|refine BQ ?_)|(refine BR ?_;try simp only [setS]))|refine AA ?_|refine AC ?_|refine AD ?_|refine AE ?_|refine AF rfl rfl ?_|refine AG rfl rfl ?_|refine AH ?_|refine AI ?_|refine AJ ?_|refine AK ?_|refine AL ?_|refine AM ?_|refine AN ?_|refine AO ?_|refine AP ?_|refine AQ rfl ?_|refine AR ?_|refine AS ?_|refine AT rfl ?_|refine AU rfl ?_
    refine wr_call_e rfl ((place_ok hE hpl a2 hr t0).mono fun x h3 ⟨e3, e4, hpl1, h1, h2'⟩ => ?_)
    subst e4
    have e3 := e3.symm
    subst e3
    unfold atR
    generalize plF l t0 = p at *
    have kr := Keep.refl (NoB) (h2 : Hp X)
    by_cases hp : p < l.length
    · obtain ⟨s, hs⟩ : ∃ s, l[p]? = some s := ⟨_, List.getElem?_eq_getElem hp⟩
      obtain ⟨g, o, c0, c1, c2, c3⟩ := a2.rs.atS hs
      rw [hs]
      simp only
      by_cases hst : s.t = t0
      · rw [if_pos hst]
        repeat first|(refine BG ?_;first|(refine BH ?_;first|(refine BI ?_;refine BM ?_)|(refine BJ ?_;first|refine BN ?_|refine BO ?_)|refine BV (a2.rs.lenv (by rfl)) ?_|refine BV (c0 rfl rfl) ?_|refine BV (c1 kr rfl) ?_|refine BV (c2 kr rfl) ?_|refine BP ?_)|(refine BK ?_;first|refine BS rfl rfl ?_|refine BT rfl rfl ?_|refine BU rfl ?_)|(refine BL ?_;first|refine BW (ef_bxn bx rfl rfl rfl rfl (Nat.le_refl _)) ?_|refine BQ ?_)|(refine BR ?_;try simp only [setS]))|refine AA ?_|refine AC ?_|refine AD ?_|refine AE ?_|refine AF rfl rfl ?_|refine AG rfl rfl ?_|refine AH ?_|refine AI ?_|refine AJ ?_|refine AK ?_|refine AL ?_|refine AM ?_|refine AN ?_|refine AO ?_|refine AP ?_|refine AQ rfl ?_|refine AR ?_|refine AS ?_|refine AT rfl ?_|refine AU rfl ?_
        exact fin_q3 (q := s.q) (b := true) (er := 0) bx.put rfl rfl rfl ⟨fin0 K2 (q := s.q), rfl⟩
      · rw [if_neg hst]
        rcases Nat.eq_zero_or_pos p with hp0 | hp0
        · subst hp0
          rw [if_pos rfl]
          repeat first|(refine BG ?_;first|(refine BH ?_;first|(refine BI ?_;refine BM ?_)|(refine BJ ?_;first|refine BN ?_|refine BO ?_)|refine BV (a2.rs.lenv (by rfl)) ?_|refine BV (c0 rfl rfl) ?_|refine BV (c1 kr rfl) ?_|refine BP ?_)|(refine BK ?_;first|refine BS rfl rfl ?_|refine BT rfl rfl ?_|refine BU rfl ?_)|(refine BL ?_;first|refine BW (ef_bxn bx rfl rfl rfl rfl (Nat.le_refl _)) ?_|refine BQ ?_)|(refine BR ?_;try simp only [setS]))|refine AA ?_|refine AC ?_|refine AD ?_|refine AE ?_|refine AF rfl rfl ?_|refine AG rfl rfl ?_|refine AH ?_|refine AI ?_|refine AJ ?_|refine AK ?_|refine AL ?_|refine AM ?_|refine AN ?_|refine AO ?_|refine AP ?_|refine AQ rfl ?_|refine AR ?_|refine AS ?_|refine AT rfl ?_|refine AU rfl ?_
          exact fin_q3 (q := (0, 0)) (b := false) (er := 0) bx.put rfl rfl rfl ⟨fin0 K2 (q := (0, 0)), rfl⟩
        · obtain ⟨m, rfl⟩ : ∃ m, p = m + 1 := ⟨p - 1, by omega⟩
          obtain ⟨u, hu⟩ : ∃ u, l[m]? = some u := ⟨_, List.getElem?_eq_getElem (by omega)⟩
          obtain ⟨g', o', d0, d1, d2, d3⟩ := a2.rs.atS hu
          rw [if_neg (by omega), Nat.add_sub_cancel, hu]
          simp only
          have hlen := a.len
          have hne : ¬ ((m + 1 : Nat) : Int) = (l.length : Nat) := by omega
          repeat first|(refine BG ?_;first|(refine BH ?_;first|(refine BI ?_;refine BM ?_)|(refine BJ ?_;first|refine BN ?_|refine BO ?_)|refine BV (a2.rs.lenv (by rfl)) ?_|refine BV (c0 rfl rfl) ?_|refine BV (c1 kr rfl) ?_|refine BP ?_)|(refine BK ?_;first|refine BS rfl rfl ?_|refine BT rfl rfl ?_|refine BU rfl ?_)|(refine BL ?_;first|refine BQ ?_)|(refine BR ?_;try simp only [setS]))|refine AA ?_|refine AC ?_|refine AD ?_|refine AF rfl rfl ?_|refine AG rfl rfl ?_|refine AH ?_|refine AI ?_|refine AJ ?_|refine AK ?_|refine AL ?_|refine AM ?_|refine AN ?_|refine AO ?_|refine AP ?_|refine AQ rfl ?_|refine AR ?_|refine AS ?_|refine AT rfl ?_|refine AU rfl ?_
          repeat first|(refine BG ?_;first|(refine BH ?_;first|(refine BI ?_;refine BM ?_)|(refine BJ ?_;first|refine BN ?_|refine BO ?_)|refine BV (v_pred rfl rfl (by omega)) ?_|refine BV (d0 rfl rfl) ?_|refine BV (d3 kr rfl) ?_|refine BV (c0 rfl rfl) ?_|refine BV (c3 kr rfl) ?_|refine BP ?_)|(refine BK ?_;first|refine BS rfl rfl ?_|refine BT rfl rfl ?_|refine BU rfl ?_)|(refine BL ?_;first|refine BQ ?_)|(refine BR ?_;try simp only [setS]))|(refine BX ?_;first|refine BY rfl ?_|(refine BZ ?_;refine CA ?_)|refine CB (v_pred rfl rfl (by omega)) ?_|refine CB (d0 rfl rfl) ?_|refine CB (d3 kr rfl) ?_|refine CB (c0 rfl rfl) ?_|refine CB (c3 kr rfl) ?_|refine CC ?_|(refine CD ?_;try simp only [setS]))|refine AA ?_|refine AC ?_|refine AD ?_|refine AE ?_|refine AF rfl rfl ?_|refine AG rfl rfl ?_|refine AH ?_|refine AI ?_|refine AJ ?_|refine AK ?_|refine AL ?_|refine AM ?_|refine AN ?_|refine AO ?_|refine AP ?_|refine AQ rfl ?_|refine AR ?_|refine AS ?_|refine AT rfl ?_|refine AU rfl ?_
          have kq : Keep NoB h2 (h2.push (.rw [.int .i64 0, .int .i64 0])) := Keep.push _ _ _
          have bq : Bx (h2.push (.rw [.int .i64 0, .int .i64 0])) h2.n [.int .i64 0, .int .i64 0] := bx_push
          have bxq := bx.up kq
          refine wd_alloc_s (by (try simp only [List.nil_append, List.cons_append]);repeat first|exact chk_nil|(apply chk_at;(focus exact rfl);first|exact pa_skp|(refine pa_mov ?_;first|exact (v_pred rfl rfl (by omega))|exact (d0 rfl rfl)|exact (d3 kq rfl)|exact (c0 rfl rfl)|exact (c3 kq rfl)|exact rfl))) ?_
          simp only [setS]
          generalize h2.push (.rw [.int .i64 0, .int .i64 0]) = h4 at *
          repeat first|(refine BG ?_;first|(refine BH ?_;first|(refine BI ?_;refine BM ?_)|(refine BJ ?_;first|refine BN ?_|refine BO ?_)|refine BP ?_)|(refine BK ?_;first|refine BS rfl rfl ?_|refine BT rfl rfl ?_|refine BU rfl ?_)|(refine BL ?_;first|refine BQ ?_)|(refine BR ?_;try simp only [setS]))|(refine BX ?_;first|refine BY rfl ?_|(refine BZ ?_;refine CA ?_)|refine CC ?_|(refine CD ?_;try simp only [setS]))|refine AA ?_|refine AC ?_|refine AD ?_|refine AE ?_|refine AF rfl rfl ?_|refine AG rfl rfl ?_|refine AH ?_|refine AI ?_|refine AJ ?_|refine AK ?_|refine AL ?_|refine AM ?_|refine AN ?_|refine AO ?_|refine AP ?_|refine AQ rfl ?_|refine AR ?_|refine AS ?_|refine AT rfl ?_|refine AU rfl ?_
          have su := hr m u hu
          have ss := hr (m + 1) s hs
          refine wd_calls_e rfl ((between_ok hE T hbt (a := u) (b := s) (t0 := t0) (a.row u (List.mem_of_getElem? hu)).2 (a.row s (List.mem_of_getElem? hs)).2 ⟨su.t0, su.t1⟩ ⟨ss.t0, ss.t1⟩).mono fun x h5 ⟨k5, e5⟩ => ?_)
          subst e5
          have bq5 := bq.up k5
          have bx5 := bxq.up k5
          have K5 := (K2.and kq).and k5
          refine ⟨(by (try simp only [List.nil_append, List.cons_append]);repeat first|exact chk_nil|(apply chk_at;(focus exact rfl);first|exact pa_skp|exact (pa_alc bq5.get)|(refine pa_mov ?_;first|exact rfl))), ?_⟩
          generalize betF u s t0 = r at *
          obtain ⟨⟨n1, n2⟩, er⟩ := r
          repeat first|(refine BG ?_;first|(refine BH ?_;first|(refine BI ?_;refine BM ?_)|(refine BJ ?_;first|refine BN ?_|refine BO ?_)|refine BP ?_)|(refine BK ?_;first|refine BS rfl rfl ?_|refine BT rfl rfl ?_|refine BU rfl ?_)|(refine BL ?_;first|refine BQ ?_)|(refine BR ?_;try simp only [setS]))|(refine BX ?_;first|refine BY rfl ?_|(refine BZ ?_;refine CA ?_)|refine CC ?_|(refine CD ?_;try simp only [setS]))|refine AA ?_|refine AC ?_|refine AD ?_|refine AE ?_|refine AF rfl rfl ?_|refine AG rfl rfl ?_|refine AH ?_|refine AI ?_|refine AJ ?_|refine AK ?_|refine AL ?_|refine AM ?_|refine AN ?_|refine AO ?_|refine AP ?_|refine AQ rfl ?_|refine AR ?_|refine AS ?_|refine AT rfl ?_|refine AU rfl ?_
          refine wd_ef (ef_bxn bq5 rfl rfl rfl rfl (Nat.le_refl _)) (by (try simp only [List.nil_append, List.cons_append]);repeat first|exact chk_nil|(apply chk_at;(focus exact rfl);first|exact pa_skp|(refine pa_mov ?_;first|exact rfl))) ?_
          refine wd_heap (h' := h5.put h2.n (.rw [.int .i64 n1, .int .i64 n2])) rfl ?_
          have k6 : Keep (OneB h2.n) h5 (h5.put h2.n (.rw [.int .i64 n1, .int .i64 n2])) := Keep.put _ _ _ rfl
          have bq6 : Bx (h5.put h2.n (.rw [.int .i64 n1, .int .i64 n2])) h2.n [.int .i64 n1, .int .i64 n2] := bq5.put
          have hlt2 := bx.lt
          have n2' := K2.n
          have n1' := kp.n
          have bx6 := bx5.keep k6 (fun q => by have q : h.n = h2.n := q; omega)
          have K6 := K5.own k6 (fun k q => by have q : k = h2.n := q; omega)
          generalize h5.put h2.n (.rw [.int .i64 n1, .int .i64 n2]) = h6 at *
          by_cases her : er = 0
          · subst her
            repeat first|(refine BG ?_;first|(refine BH ?_;first|(refine BI ?_;refine BM ?_)|(refine BJ ?_;first|refine BN ?_|refine BO ?_)|refine BV (v_bxn bq6 rfl (Nat.le_refl _)) ?_|refine BP ?_)|(refine BK ?_;first|refine BS rfl rfl ?_|refine BT rfl rfl ?_|refine BU rfl ?_)|(refine BL ?_;first|refine BW (ef_bxn bx6 rfl rfl rfl rfl (Nat.le_refl _)) ?_|refine BQ ?_)|(refine BR ?_;try simp only [setS]))|(refine BX ?_;first|refine BY rfl ?_|(refine BZ ?_;refine CA ?_)|refine CB (v_bxn bq6 rfl (Nat.le_refl _)) ?_|refine CC ?_|(refine CD ?_;try simp only [setS]))|refine AA ?_|refine AC ?_|refine AD ?_|refine AE ?_|refine AF rfl rfl ?_|refine AG rfl rfl ?_|refine AH ?_|refine AI ?_|refine AJ ?_|refine AK ?_|refine AL ?_|refine AM ?_|refine AN ?_|refine AO ?_|refine AP ?_|refine AQ rfl ?_|refine AR ?_|refine AS ?_|refine AT rfl ?_|refine AU rfl ?_
            exact fin_q3 (q := (n1, n2)) (b := true) (er := 0) bx6.put rfl rfl rfl ⟨fin0 K6 (q := (n1, n2)), rfl⟩
          · rw [decide_eq_false her]
            repeat first|(refine BG ?_;first|(refine BH ?_;first|(refine BI ?_;refine BM ?_)|(refine BJ ?_;first|refine BN ?_|refine BO ?_)|refine BV (v_bxn bq6 rfl (Nat.le_refl _)) ?_|refine BP ?_)|(refine BK ?_;first|refine BS rfl rfl ?_|refine BT rfl rfl ?_|refine BU rfl ?_)|(refine BL ?_;first|refine BW (ef_bxn bx6 rfl rfl rfl rfl (Nat.le_refl _)) ?_|refine BQ ?_)|(refine BR ?_;try simp only [setS]))|(refine BX ?_;first|refine BY rfl ?_|(refine BZ ?_;refine CA ?_)|refine CB (v_bxn bq6 rfl (Nat.le_refl _)) ?_|refine CC ?_|(refine CD ?_;try simp only [setS]))|refine AA ?_|refine AC ?_|refine AD ?_|refine AE ?_|refine AF rfl rfl ?_|refine AG rfl rfl ?_|refine AH ?_|refine AI ?_|refine AJ ?_|refine AK ?_|refine AL ?_|refine AM ?_|refine AN ?_|refine AO ?_|refine AP ?_|refine AQ rfl ?_|refine AR ?_|refine AS ?_|refine AT rfl ?_|refine AU rfl ?_
            exact fin_q3 (q := (n1, n2)) (b := false) (er := er) bx6.put rfl rfl rfl ⟨fin0 K6 (q := (n1, n2)), rfl⟩
    · obtain rfl : p = l.length := by omega
      rw [List.getElem?_eq_none (Nat.le_refl _)]
      simp only
      by_cases h0 : l.length = 0
      · repeat first|(refine BG ?_;first|(refine BH ?_;first|(refine BI ?_;refine BM ?_)|(refine BJ ?_;first|refine BN ?_|refine BO ?_)|refine BV (a2.rs.lenv (by rfl)) ?_|refine BP ?_)|(refine BK ?_;first|refine BS rfl rfl ?_|refine BT rfl rfl ?_|refine BU rfl ?_)|(refine BL ?_;first|refine BW (ef_bxn bx rfl rfl rfl rfl (Nat.le_refl _)) ?_|refine BQ ?_)|(refine BR ?_;try simp only [setS]))|refine AA ?_|refine AC ?_|refine AD ?_|refine AE ?_|refine AF rfl rfl ?_|refine AG rfl rfl ?_|refine AH ?_|refine AI ?_|refine AJ ?_|refine AK ?_|refine AL ?_|refine AM ?_|refine AN ?_|refine AO ?_|refine AP ?_|refine AQ rfl ?_|refine AR ?_|refine AS ?_|refine AT rfl ?_|refine AU rfl ?_
        exact fin_q3 (q := (0, 0)) (b := false) (er := 0) bx.put rfl rfl rfl ⟨fin0 K2 (q := (0, 0)), rfl⟩
      · repeat first|(refine BG ?_;first|(refine BH ?_;first|(refine BI ?_;refine BM ?_)|(refine BJ ?_;first|refine BN ?_|refine BO ?_)|refine BV (a2.rs.lenv (by rfl)) ?_|refine BP ?_)|(refine BK ?_;first|refine BS rfl rfl ?_|refine BT rfl rfl ?_|refine BU rfl ?_)|(refine BL ?_;first|refine BW (ef_bxn bx rfl rfl rfl rfl (Nat.le_refl _)) ?_|refine BQ ?_)|(refine BR ?_;try simp only [setS]))|refine AA ?_|refine AC ?_|refine AD ?_|refine AE ?_|refine AF rfl rfl ?_|refine AG rfl rfl ?_|refine AH ?_|refine AI ?_|refine AJ ?_|refine AK ?_|refine AL ?_|refine AM ?_|refine AN ?_|refine AO ?_|refine AP ?_|refine AQ rfl ?_|refine AR ?_|refine AS ?_|refine AT rfl ?_|refine AU rfl ?_
        exact fin_q3 (q := (0, 0)) (b := false) (er := 0) bx.put rfl rfl rfl ⟨fin0 K2 (q := (0, 0)), rfl⟩
end
end Am
end Go.Proofs.Ytkgplkddpigagaa
