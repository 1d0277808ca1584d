/- Layer 23: the document's times. -/
import Derived.Test.YtkgplkddpigagaaQcB
set_option linter.unusedVariables false
set_option linter.unusedSimpArgs false
namespace Go.Proofs.Ytkgplkddpigagaa
namespace Am
open Go.RowKit
set_option maxRecDepth 100000
def b_ref21Times : BF := ⟨70, [0, 2, 3, 4, 5, 6, 7, 11, 20, 42, 56], (.seq (.reg [.mk none (.slot 1) (.mov (.mv (.const .snil)))]) (.seq (.reg [.mk none (.slot 2) (.mov (.mv (.const .snil)))]) (.seq (.seq (.reg [.mk none (.slot 3) (.mov (.mv (.const (.int .i64 0))))]) (.block 0 (.loop (.seq (.seq (.reg [.mk none (.env 8) (.mov (.mv (.slot 3))), .mk none (.env 9) (.mov (.mv (.slot 0))), .mk none (.env 10) (.mov (.lenv (.env 9))), .mk none (.slot 7) (.mov (.bin .lss .no (.env 8) (.env 10)))]) (.cond (.slot 7) .skip (.exit 0))) (.seq (.block 1 (.seq (.reg [.mk none (.slot 4) (.mov (.mv (.const (.int .i64 0))))]) (.block 2 (.loop (.seq (.seq (.reg [.mk none (.env 14) (.mov (.mv (.slot 4))), .mk none (.env 15) (.mov (.mv (.slot 0))), .mk none (.env 16) (.mov (.mv (.slot 3))), .mk none (.env 17) (.mov (.iaddr 1 (.env 15) (.env 16))), .mk none (.env 18) (.mov (.ld1 (.env 17))), .mk none (.env 19) (.mov (.lenv (.env 18))), .mk none (.slot 8) (.mov (.bin .lss .no (.env 14) (.env 19)))]) (.cond (.slot 8) .skip (.exit 2))) (.seq (.block 3 (.seq (.reg [.mk none (.env 23) (.mov (.mv (.slot 0))), .mk none (.env 24) (.mov (.mv (.slot 3))), .mk none (.env 25) (.mov (.iaddr 1 (.env 23) (.env 24))), .mk none (.env 26) (.mov (.ld1 (.env 25))), .mk none (.env 27) (.mov (.mv (.slot 4))), .mk none (.env 28) (.mov (.iaddr 3 (.env 26) (.env 27))), .mk none (.env 29) (.mov (.faddr 0 (.env 28))), .mk none (.env 30) (.mov (.ld1 (.env 29))), .mk none (.slot 5) (.mov (.mv (.env 30)))]) (.seq (.reg [.mk none (.slot 6) (.mov (.mv (.const (.int .i64 0))))]) (.seq (.block 4 (.loop (.seq (.seq (.reg [.mk none (.env 31) (.mov (.mv (.slot 6))), .mk none (.env 32) (.mov (.mv (.slot 2))), .mk none (.env 33) (.mov (.lenv (.env 32))), .mk none (.env 34) (.mov (.bin .lss .no (.env 31) (.env 33))), .mk none (.env 35) (.mov (.mv (.env 34))), .mk (some ((.env 35), true)) (.env 36) (.mov (.mv (.slot 2))), .mk (some ((.env 35), true)) (.env 37) (.mov (.mv (.slot 6))), .mk (some ((.env 35), true)) (.env 38) (.mov (.iaddr 1 (.env 36) (.env 37))), .mk (some ((.env 35), true)) (.env 39) (.mov (.ld1 (.env 38))), .mk (some ((.env 35), true)) (.env 40) (.mov (.mv (.slot 5))), .mk (some ((.env 35), true)) (.env 41) (.mov (.bin .lss .no (.env 39) (.env 40))), .mk none (.slot 9) (.mov (.pick (.env 35) (.env 41) (.const (.bool false))))]) (.cond (.slot 9) .skip (.exit 4))) (.block 5 (.reg [.mk none (.env 43) (.mov (.mv (.slot 6))), .mk none (.env 44) (.mov (.bin .add .no (.env 43) (.const (.int .i64 1)))), .mk none (.slot 6) (.mov (.mv (.env 44)))]))))) (.seq (.reg [.mk none (.env 45) (.mov (.mv (.slot 6))), .mk none (.env 46) (.mov (.mv (.slot 2))), .mk none (.env 47) (.mov (.lenv (.env 46))), .mk none (.env 48) (.mov (.bin .eql .no (.env 45) (.env 47))), .mk none (.env 49) (.mov (.mv (.env 48))), .mk (some ((.env 49), false)) (.env 50) (.mov (.mv (.slot 2))), .mk (some ((.env 49), false)) (.env 51) (.mov (.mv (.slot 6))), .mk (some ((.env 49), false)) (.env 52) (.mov (.iaddr 1 (.env 50) (.env 51))), .mk (some ((.env 49), false)) (.env 53) (.mov (.ld1 (.env 52))), .mk (some ((.env 49), false)) (.env 54) (.mov (.mv (.slot 5))), .mk (some ((.env 49), false)) (.env 55) (.mov (.bin .neq .no (.env 53) (.env 54))), .mk none (.slot 10) (.mov (.pick (.env 49) (.const (.bool true)) (.env 55)))]) (.cond (.slot 10) (.dreg [(.mk none (.env 58) (.mov (.mv (.slot 2))), []), (.mk none (.env 59) (.mov (.mv (.slot 6))), []), (.mk none (.env 60) (.mov (.sl 1 (.env 58) none (some (.env 59)) none)), []), (.mk none (.env 62) (.mov (.mv (.slot 5))), []), (.mk none (.env 65) (.mov (.mv (.slot 2))), []), (.mk none (.env 66) (.mov (.mv (.slot 6))), []), (.mk none (.env 67) (.mov (.sl 1 (.env 65) (some (.env 66)) none none)), []), (.mk none (.env 57) (.eff (.bslice 1 0 [(.int .i64 0)] [])), [0, 1, 2, 3, 4, 5, 6]), (.mk none (.env 63) (.eff (.bslice 1 1 [(.int .i64 0)] [(0, 1, (.env 62))])), [0, 1, 2, 3, 4, 5, 6, 7]), (.mk none (.env 61) (.eff (.append 1 8 (.env 57) (.env 60))), [3, 4, 5, 6, 8]), (.mk none (.env 64) (.eff (.append 1 8 (.env 61) (.env 63))), [4, 5, 6]), (.mk none (.env 68) (.eff (.append 1 8 (.env 64) (.env 67))), []), (.mk none (.slot 2) (.mov (.mv (.env 68))), [])]) .skip)))))) (.reg [.mk none (.env 21) (.mov (.mv (.slot 4))), .mk none (.env 22) (.mov (.bin .add .no (.env 21) (.const (.int .i64 1)))), .mk none (.slot 4) (.mov (.mv (.env 22)))]))))))) (.reg [.mk none (.env 12) (.mov (.mv (.slot 3))), .mk none (.env 13) (.mov (.bin .add .no (.env 12) (.const (.int .i64 1)))), .mk none (.slot 3) (.mov (.mv (.env 13)))])))))) (.seq (.reg [.mk none (.env 69) (.mov (.mv (.slot 2))), .mk none (.slot 1) (.mov (.mv (.env 69)))]) .ret)))), [.slot (.slot 1)]⟩
theorem ins_rise {T : List Int} {x : Int} {k : Nat} (hT : T.Pairwise (· < ·)) (h1 : ∀ y ∈ T.take k, y < x) (h2 : ∀ y ∈ T.drop k, x < y) : (T.take k ++ [x] ++ T.drop k).Pairwise (· < ·) := by
  have hs : (T.take k ++ T.drop k).Pairwise (· < ·) := by rw [List.take_append_drop]; exact hT
  rw [List.pairwise_append] at hs
  rw [List.append_assoc, List.pairwise_append]
  refine ⟨hs.1, List.pairwise_cons.2 ⟨h2, hs.2.1⟩, fun a ha b hb => ?_⟩
  rcases List.mem_cons.1 hb with rfl | hb
  · exact h1 a ha
  · exact hs.2.2 a ha b hb
theorem ins_mem {T : List Int} {x y : Int} {k : Nat} : y ∈ T.take k ++ [x] ++ T.drop k ↔ y ∈ T ∨ y = x := by
  have e : y ∈ T ↔ y ∈ T.take k ∨ y ∈ T.drop k := by
    conv => lhs; rw [← List.take_append_drop k T]
    exact List.mem_append
  rw [List.append_assoc, List.mem_append, List.mem_append, List.mem_singleton, e]
  constructor
  · rintro (h | h | h)
    · exact .inl (.inl h)
    · exact .inr h
    · exact .inl (.inr h)
  · rintro ((h | h) | h)
    · exact .inl h
    · exact .inr (.inr h)
    · exact .inr (.inl h)
theorem iv_map_take {T : List Int} {k : Nat} : ((T.map iv).drop (0 * 1)).take ((k - 0) * 1) = (T.take k).map iv := by simp [List.map_take]
theorem iv_map_drop {T : List Int} {k : Nat} : ((T.map iv).drop (k * 1)).take ((T.length - k) * 1) = (T.drop k).map iv := by
  rw [Nat.mul_one, Nat.mul_one, ← List.map_drop, List.take_of_length_le (by rw [List.length_map, List.length_drop]; omega)]
section
variable {X : Type} {E : Nat → Option (Ent X)}
set_option maxHeartbeats 4000000 in
theorem r21times_ok (hE : ∀ f e, E f = some e → e.plain) (hf : E 20 = some (.bc b_ref21Times)) {h : Hp X} {v : AV} {ls : List (List SM)} (a : Sers h v ls) (hl2 : ∀ l ∈ ls, l.length ≤ 1000) :
    WF (lim E) 20 [v] h fun x h' => Keep NoB h h' ∧ RS h' 1 x (timesF ls).length ((timesF ls).map iv) := by
  have hmx : (maxLen : Nat) = 9223372036854775807 := rfl
  refine wf_bc hE hf rfl ?_
  simp only [b_ref21Times, List.map, getS]
  have hlen := a.len
  obtain ⟨cells, hrs, hat⟩ := a.out
  repeat first|(refine BG ?_;first|(refine BH ?_;first|(refine BI ?_;refine BM ?_)|(refine BJ ?_;first|refine BN ?_|refine BO ?_)|refine BP ?_)|(refine BK ?_;first|refine BS rfl rfl ?_|refine BT rfl rfl ?_|refine BU rfl ?_)|(refine BL ?_;first|refine BQ ?_)|(refine BR ?_;try simp only [setS]))|refine AA ?_|refine AC ?_|refine AD ?_|refine AE ?_|refine AF rfl rfl ?_|refine AG rfl rfl ?_|refine AH ?_|refine AI ?_|refine AJ ?_|refine AK ?_|refine AL ?_|refine AM ?_|refine AN ?_|refine AO ?_|refine AP ?_|refine AQ rfl ?_|refine AR ?_|refine AS ?_|refine AT rfl ?_|refine AU rfl ?_
  refine wb_loop (fun n t hh => ∃ (i : Nat) (T : List Int) (vo s4 s5 s6 s7 s8 s9 s10 : AV), i ≤ ls.length ∧ n = ls.length - i ∧ Keep NoB h hh ∧ T.length ≤ i * 1000 ∧ T.Pairwise (· < ·) ∧ (∀ x, x ∈ T ↔ ∃ l ∈ ls.take i, ∃ s ∈ l, s.t = x) ∧ RS hh 1 vo T.length (T.map iv) ∧ t = [v, .snil, vo, .int .i64 i, s4, s5, s6, s7, s8, s9, s10]) ?_ ls.length _ _ ⟨0, [], .snil, _, _, _, _, _, _, _, by omega, by omega, Keep.refl _ _, Nat.le_refl _, .nil, by simp, ⟨rfl, rfl⟩, rfl⟩
  rintro n t hh ⟨i, T, vo, s4, s5, s6, s7, s8, s9, s10, hi, hm, K, hTl, hTr, hTm, rT, rfl⟩
  by_cases hlt : i < ls.length
  · obtain ⟨l, hl⟩ : ∃ l, ls[i]? = some l := ⟨_, List.getElem?_eq_getElem hlt⟩
    have hl2' := hl2 l (List.mem_of_getElem? hl)
    obtain ⟨c, hc, hser⟩ := hat i l hl
    obtain ⟨g, o, c0, c1⟩ := hrs.at2 hlt
    have lc : ∀ {hh' : Hp X}, Keep NoB h hh' → ∀ {e : En} {t : List AV} {x : Od}, x.ev e t = .ptr g o → (Mv.ld1 x).ev e t hh' = some c := fun {hh'} k {e t x} hx => by rw [c1 k (fun _ _ q => q) hx]; exact hc
    repeat first|(refine BG ?_;first|(refine BH ?_;first|(refine BI ?_;refine BM ?_)|(refine BJ ?_;first|refine BN ?_|refine BO ?_)|refine BV (hrs.lenv (by rfl)) ?_|refine BV ((hrs.up K).lenv (by rfl)) ?_|refine BP ?_)|(refine BK ?_;first|refine BS rfl rfl ?_|refine BT rfl rfl ?_|refine BU rfl ?_)|(refine BL ?_;first|refine BQ ?_)|(refine BR ?_;try simp only [setS]))|refine AA ?_|refine AC ?_|refine AD ?_|refine AE ?_|refine AF rfl rfl ?_|refine AG rfl rfl ?_|refine AH ?_|refine AI ?_|refine AJ ?_|refine AK ?_|refine AL ?_|refine AM ?_|refine AN ?_|refine AO ?_|refine AP ?_|refine AQ rfl ?_|refine AR ?_|refine AS ?_|refine AT rfl ?_|refine AU rfl ?_
    refine wb_loop (fun n t h2 => ∃ (j : Nat) (T2 : List Int) (vo s5 s6 s8 s9 s10 : AV), j ≤ l.length ∧ n = l.length - j ∧ Keep NoB h h2 ∧ T2.length ≤ i * 1000 + j ∧ T2.Pairwise (· < ·) ∧ (∀ x, x ∈ T2 ↔ x ∈ T ∨ ∃ s ∈ l.take j, s.t = x) ∧ RS h2 1 vo T2.length (T2.map iv) ∧ t = [v, .snil, vo, .int .i64 i, .int .i64 j, s5, s6, .bool true, s8, s9, s10]) ?_ l.length _ _ ⟨0, T, vo, _, _, _, _, _, by omega, by omega, K, by omega, hTr, by simp, rT, rfl⟩
    rintro n2 t h2 ⟨j, T2, v2, s5, s6, s8, s9, s10, hj, hm2, K2, hTl2, hTr2, hTm2, rT2, rfl⟩
    have kr2 := Keep.refl (NoB) (h2 : Hp X)
    by_cases hjl : j < l.length
    · obtain ⟨s, hs⟩ : ∃ s, l[j]? = some s := ⟨_, List.getElem?_eq_getElem hjl⟩
      obtain ⟨g', o', d0, d1, d2, d3⟩ := (hser.up K2).rs.atS hs
      have htk : l.take (j + 1) = l.take j ++ [s] := by rw [List.take_add_one, hs]; rfl
      repeat first|(refine BG ?_;first|(refine BH ?_;first|(refine BI ?_;refine BM ?_)|(refine BJ ?_;first|refine BN ?_|refine BO ?_)|refine BV (c0 rfl rfl) ?_|refine BV (lc K2 rfl) ?_|refine BV ((hser.up K2).rs.lenv (by rfl)) ?_|refine BP ?_)|(refine BK ?_;first|refine BS rfl rfl ?_|refine BT rfl rfl ?_|refine BU rfl ?_)|(refine BL ?_;first|refine BQ ?_)|(refine BR ?_;try simp only [setS]))|refine AA ?_|refine AC ?_|refine AD ?_|refine AE ?_|refine AF rfl rfl ?_|refine AG rfl rfl ?_|refine AI ?_|refine AJ ?_|refine AK ?_|refine AL ?_|refine AM ?_|refine AN ?_|refine AO ?_|refine AP ?_|refine AQ rfl ?_|refine AR ?_|refine AS ?_|refine AT rfl ?_|refine AU rfl ?_
      refine AH ?_
      repeat first|(refine BG ?_;first|(refine BH ?_;first|(refine BI ?_;refine BM ?_)|(refine BJ ?_;first|refine BN ?_|refine BO ?_)|refine BV (c0 rfl rfl) ?_|refine BV (lc K2 rfl) ?_|refine BV (d0 rfl rfl) ?_|refine BV (d1 kr2 rfl) ?_|refine BP ?_)|(refine BK ?_;first|refine BS rfl rfl ?_|refine BT rfl rfl ?_|refine BU rfl ?_)|(refine BL ?_;first|refine BQ ?_)|(refine BR ?_;try simp only [setS]))|refine AA ?_|refine AC ?_|refine AD ?_|refine AE ?_|refine AF rfl rfl ?_|refine AG rfl rfl ?_|refine AI ?_|refine AJ ?_|refine AK ?_|refine AL ?_|refine AM ?_|refine AN ?_|refine AO ?_|refine AP ?_|refine AQ rfl ?_|refine AR ?_|refine AS ?_|refine AT rfl ?_|refine AU rfl ?_
      refine wb_mid (fun t' h' => h' = h2 ∧ ∃ (k : Nat) (s9 : AV), k ≤ T2.length ∧ (∀ (m : Nat) y, m < k → T2[m]? = some y → y < s.t) ∧ (∀ y, T2[k]? = some y → ¬ y < s.t) ∧ t' = [v, .snil, v2, .int .i64 i, .int .i64 j, .int .i64 s.t, .int .i64 k, .bool true, .bool true, s9, s10]) ?_ ?_
      · repeat first|(refine BG ?_;first|(refine BH ?_;first|(refine BI ?_;refine BM ?_)|(refine BJ ?_;first|refine BN ?_|refine BO ?_)|refine BP ?_)|(refine BK ?_;first|refine BS rfl rfl ?_|refine BT rfl rfl ?_|refine BU rfl ?_)|(refine BL ?_;first|refine BQ ?_)|(refine BR ?_;try simp only [setS]))|refine AA ?_|refine AC ?_|refine AD ?_|refine AE ?_|refine AF rfl rfl ?_|refine AG rfl rfl ?_|refine AH ?_|refine AI ?_|refine AJ ?_|refine AK ?_|refine AL ?_|refine AM ?_|refine AN ?_|refine AO ?_|refine AP ?_|refine AQ rfl ?_|refine AR ?_|refine AS ?_|refine AT rfl ?_|refine AU rfl ?_
        refine wb_loop (fun n3 t h3 => ∃ (k : Nat) (s9 : AV), k ≤ T2.length ∧ n3 = T2.length - k ∧ h3 = h2 ∧ (∀ (m : Nat) y, m < k → T2[m]? = some y → y < s.t) ∧ t = [v, .snil, v2, .int .i64 i, .int .i64 j, .int .i64 s.t, .int .i64 k, .bool true, .bool true, s9, s10]) ?_ T2.length _ _ ⟨0, _, by omega, by omega, rfl, by omega, rfl⟩
        rintro n3 t h3 ⟨k, s9, hk, hm3, eh, hall, rfl⟩
        have eh := eh.symm
        subst eh
        by_cases hkl : k < T2.length
        · obtain ⟨y, hy⟩ : ∃ y, T2[k]? = some y := ⟨_, List.getElem?_eq_getElem hkl⟩
          obtain ⟨g2, o2, b0, b1⟩ := rT2.at2 hkl
          have lb : ∀ {e : En} {t : List AV} {x : Od}, x.ev e t = .ptr g2 o2 → (Mv.ld1 x).ev e t h2 = some (.int .i64 y) := fun hx => by rw [b1 (Keep.refl NoB h2) (fun _ _ q => q) hx, iv_at hy]
          by_cases hyt : y < s.t
          · repeat first|(refine BG ?_;first|(refine BH ?_;first|(refine BI ?_;refine BM ?_)|(refine BJ ?_;first|refine BN ?_|refine BO ?_)|refine BV (rT2.lenv (by rfl)) ?_|refine BV (b0 rfl rfl) ?_|refine BV (lb rfl) ?_|refine BP ?_)|(refine BK ?_;first|refine BS rfl rfl ?_|refine BT rfl rfl ?_|refine BU rfl ?_)|(refine BL ?_;first|refine BQ ?_)|(refine BR ?_;try simp only [setS]))|refine AA ?_|refine AC ?_|refine AD ?_|refine AE ?_|refine AF rfl rfl ?_|refine AG rfl rfl ?_|refine AH ?_|refine AI ?_|refine AJ ?_|refine AK ?_|refine AL ?_|refine AM ?_|refine AN ?_|refine AO ?_|refine AP ?_|refine AQ rfl ?_|refine AR ?_|refine AS ?_|refine AT rfl ?_|refine AU rfl ?_
            rw [show ((k : Int) + 1) = ((k + 1 : Nat) : Int) by omega]
            refine round_norm (n3 - 1) (by omega) ⟨k + 1, _, by omega, by omega, rfl, fun m z hm hz => ?_, rfl⟩
            by_cases hmk : m = k
            · subst hmk; rw [hy] at hz; cases hz; exact hyt
            · exact hall m z (by omega) hz
          · repeat first|(refine BG ?_;first|(refine BH ?_;first|(refine BI ?_;refine BM ?_)|(refine BJ ?_;first|refine BN ?_|refine BO ?_)|refine BV (rT2.lenv (by rfl)) ?_|refine BV (b0 rfl rfl) ?_|refine BV (lb rfl) ?_|refine BP ?_)|(refine BK ?_;first|refine BS rfl rfl ?_|refine BT rfl rfl ?_|refine BU rfl ?_)|(refine BL ?_;first|refine BQ ?_)|(refine BR ?_;try simp only [setS]))|refine AA ?_|refine AC ?_|refine AD ?_|refine AE ?_|refine AF rfl rfl ?_|refine AG rfl rfl ?_|refine AH ?_|refine AI ?_|refine AJ ?_|refine AK ?_|refine AL ?_|refine AM ?_|refine AN ?_|refine AO ?_|refine AP ?_|refine AQ rfl ?_|refine AR ?_|refine AS ?_|refine AT rfl ?_|refine AU rfl ?_
            exact mid_norm ⟨rfl, k, _, hk, hall, fun z hz => by rw [hy] at hz; cases hz; exact hyt, rfl⟩
        · repeat first|(refine BG ?_;first|(refine BH ?_;first|(refine BI ?_;refine BM ?_)|(refine BJ ?_;first|refine BN ?_|refine BO ?_)|refine BV (rT2.lenv (by rfl)) ?_|refine BP ?_)|(refine BK ?_;first|refine BS rfl rfl ?_|refine BT rfl rfl ?_|refine BU rfl ?_)|(refine BL ?_;first|refine BQ ?_)|(refine BR ?_;try simp only [setS]))|refine AA ?_|refine AC ?_|refine AD ?_|refine AE ?_|refine AF rfl rfl ?_|refine AG rfl rfl ?_|refine AH ?_|refine AI ?_|refine AJ ?_|refine AK ?_|refine AL ?_|refine AM ?_|refine AN ?_|refine AO ?_|refine AP ?_|refine AQ rfl ?_|refine AR ?_|refine AS ?_|refine AT rfl ?_|refine AU rfl ?_
          exact mid_norm ⟨rfl, k, _, hk, hall, fun z hz => by have := (List.getElem?_eq_some_iff.1 hz).1; omega, rfl⟩
      rintro t' h' ⟨eh, k, s9, hk, hlo, hhi, rfl⟩
      have eh := eh.symm
      subst eh
      have memj : ∀ x, (∃ u ∈ l.take (j + 1), u.t = x) ↔ (∃ u ∈ l.take j, u.t = x) ∨ s.t = x := fun x => by
        rw [htk]
        constructor
        · rintro ⟨u, hu, e⟩
          rcases List.mem_append.1 hu with hu | hu
          · exact .inl ⟨u, hu, e⟩
          · simp at hu; subst hu; exact .inr e
        · rintro (⟨u, hu, e⟩ | e)
          · exact ⟨u, List.mem_append_left _ hu, e⟩
          · exact ⟨s, List.mem_append_right _ (List.mem_singleton.2 rfl), e⟩
      by_cases hin : T2[k]? = some s.t
      · have hkl := (List.getElem?_eq_some_iff.1 hin).1
        obtain ⟨g2, o2, b0, b1⟩ := rT2.at2 hkl
        have lb : ∀ {e : En} {t : List AV} {x : Od}, x.ev e t = .ptr g2 o2 → (Mv.ld1 x).ev e t h2 = some (.int .i64 s.t) := fun hx => by rw [b1 (Keep.refl NoB h2) (fun _ _ q => q) hx, iv_at hin]
        repeat first|(refine BG ?_;first|(refine BH ?_;first|(refine BI ?_;refine BM ?_)|(refine BJ ?_;first|refine BN ?_|refine BO ?_)|refine BV (rT2.lenv (by rfl)) ?_|refine BV (b0 rfl rfl) ?_|refine BV (lb rfl) ?_|refine BP ?_)|(refine BK ?_;first|refine BS rfl rfl ?_|refine BT rfl rfl ?_|refine BU rfl ?_)|(refine BL ?_;first|refine BQ ?_)|(refine BR ?_;try simp only [setS]))|refine AA ?_|refine AC ?_|refine AD ?_|refine AE ?_|refine AF rfl rfl ?_|refine AG rfl rfl ?_|refine AH ?_|refine AI ?_|refine AJ ?_|refine AK ?_|refine AL ?_|refine AM ?_|refine AN ?_|refine AO ?_|refine AP ?_|refine AQ rfl ?_|refine AR ?_|refine AS ?_|refine AT rfl ?_|refine AU rfl ?_
        rw [show ((j : Int) + 1) = ((j + 1 : Nat) : Int) by omega]
        refine round_norm (n2 - 1) (by omega) ⟨j + 1, T2, v2, _, _, _, _, _, by omega, by omega, K2, by omega, hTr2, fun x => ?_, rT2, rfl⟩
        rw [hTm2, memj]
        constructor
        · rintro (h | h)
          · exact .inl h
          · exact .inr (.inl h)
        · rintro (h | h | h)
          · exact .inl h
          · exact .inr h
          · subst h; exact (hTm2 s.t).1 (List.mem_of_getElem? hin)
      · have hgt : ∀ y ∈ T2.drop k, s.t < y := fun y hy => by
          obtain ⟨m, hm⟩ := List.mem_iff_getElem?.1 hy
          rw [List.getElem?_drop] at hm
          have hml := (List.getElem?_eq_some_iff.1 hm).1
          obtain ⟨z, hz⟩ : ∃ z, T2[k]? = some z := ⟨_, List.getElem?_eq_getElem (by omega)⟩
          have h1 := hhi z hz
          have h2 : z ≠ s.t := fun e => hin (by rw [hz, e])
          rcases Nat.eq_zero_or_pos m with hm0 | hm0
          · subst hm0
            rw [Nat.add_zero, hz] at hm; cases hm; omega
          · rw [List.pairwise_iff_getElem] at hTr2
            obtain ⟨g1, g2⟩ := List.getElem?_eq_some_iff.1 hz
            obtain ⟨g3, g4⟩ := List.getElem?_eq_some_iff.1 hm
            have := hTr2 k (k + m) g1 g3 (by omega)
            rw [g2, g4] at this
            omega
        have hlt' : ∀ y ∈ T2.take k, y < s.t := fun y hy => by
          obtain ⟨m, hm⟩ := List.mem_iff_getElem?.1 hy
          have hml := (List.getElem?_eq_some_iff.1 hm).1
          rw [List.length_take] at hml
          rw [List.getElem?_take_of_lt (by omega)] at hm
          exact hlo m y (by omega) hm
        refine AC ?_
        refine wb_mid (fun t' h' => h' = h2 ∧ t' = [v, .snil, v2, .int .i64 i, .int .i64 j, .int .i64 s.t, .int .i64 k, .bool true, .bool true, s9, .bool true]) ?_ ?_
        · by_cases hkl : k < T2.length
          · obtain ⟨y, hy⟩ : ∃ y, T2[k]? = some y := ⟨_, List.getElem?_eq_getElem hkl⟩
            have hyne : y ≠ s.t := fun e => hin (by rw [hy, e])
            obtain ⟨g2, o2, b0, b1⟩ := rT2.at2 hkl
            have lb : ∀ {e : En} {t : List AV} {x : Od}, x.ev e t = .ptr g2 o2 → (Mv.ld1 x).ev e t h2 = some (.int .i64 y) := fun hx => by rw [b1 (Keep.refl NoB h2) (fun _ _ q => q) hx, iv_at hy]
            repeat first|(refine BG ?_;first|(refine BH ?_;first|(refine BI ?_;refine BM ?_)|(refine BJ ?_;first|refine BN ?_|refine BO ?_)|refine BV (rT2.lenv (by rfl)) ?_|refine BV (b0 rfl rfl) ?_|refine BV (lb rfl) ?_|refine BP ?_)|(refine BK ?_;first|refine BS rfl rfl ?_|refine BT rfl rfl ?_|refine BU rfl ?_)|(refine BL ?_;first|refine BQ ?_)|(refine BR ?_;try simp only [setS]))|refine AA ?_|refine AC ?_|refine AD ?_|refine AE ?_|refine AF rfl rfl ?_|refine AG rfl rfl ?_|refine AH ?_|refine AI ?_|refine AJ ?_|refine AK ?_|refine AL ?_|refine AM ?_|refine AN ?_|refine AO ?_|refine AP ?_|refine AQ rfl ?_|refine AR ?_|refine AS ?_|refine AT rfl ?_|refine AU rfl ?_
            exact mid_norm ⟨rfl, rfl⟩
          · repeat first|(refine BG ?_;first|(refine BH ?_;first|(refine BI ?_;refine BM ?_)|(refine BJ ?_;first|refine BN ?_|refine BO ?_)|refine BV (rT2.lenv (by rfl)) ?_|refine BP ?_)|(refine BK ?_;first|refine BS rfl rfl ?_|refine BT rfl rfl ?_|refine BU rfl ?_)|(refine BL ?_;first|refine BQ ?_)|(refine BR ?_;try simp only [setS]))|refine AA ?_|refine AC ?_|refine AD ?_|refine AE ?_|refine AF rfl rfl ?_|refine AG rfl rfl ?_|refine AH ?_|refine AI ?_|refine AJ ?_|refine AK ?_|refine AL ?_|refine AM ?_|refine AN ?_|refine AO ?_|refine AP ?_|refine AQ rfl ?_|refine AR ?_|refine AS ?_|refine AT rfl ?_|refine AU rfl ?_
            exact mid_norm ⟨rfl, rfl⟩
        rintro t' h' ⟨eh, rfl⟩
        have eh := eh.symm
        subst eh
        obtain ⟨va, w1, w2, w3, w4⟩ := rT2.sl (lo := 0) (hi := k) (Nat.zero_le _) hk
        obtain ⟨vb, x1, x2, x3, x4⟩ := rT2.sl (lo := k) (hi := T2.length) hk (Nat.le_refl _)
        rw [iv_map_take, Nat.sub_zero] at w1
        rw [iv_map_drop] at x1
        have kp : Keep NoB h2 (h2.push (.rw [])) := Keep.push _ _ _
        have oz : OS (h2.push (.rw [])) 1 (.slice 1 h2.n 0 0 (some 0)) 0 [] := ⟨rfl, rfl, Nat.zero_lt_one, Nat.lt_succ_self _, [], Hp.push_self _ _, by simp, by simp, by simp⟩
        have bz : Bx (h2.push (.rw [])) h2.n [] := bx_push
        repeat first|(refine BG ?_;first|(refine BH ?_;first|(refine BI ?_;refine BM ?_)|(refine BJ ?_;first|refine BN ?_|refine BO ?_)|refine BP ?_)|(refine BK ?_;first|refine BS rfl rfl ?_|refine BT rfl rfl ?_|refine BU rfl ?_)|(refine BL ?_;first|refine BQ ?_)|(refine BR ?_;try simp only [setS]))|refine AA ?_|refine AC ?_|refine AD ?_|refine AF rfl rfl ?_|refine AG rfl rfl ?_|refine AH ?_|refine AI ?_|refine AJ ?_|refine AK ?_|refine AL ?_|refine AM ?_|refine AN ?_|refine AO ?_|refine AP ?_|refine AQ rfl ?_|refine AR ?_|refine AS ?_|refine AT rfl ?_|refine AU rfl ?_
        repeat first|(refine BG ?_;first|(refine BH ?_;first|(refine BI ?_;refine BM ?_)|(refine BJ ?_;first|refine BN ?_|refine BO ?_)|refine BV (w4 (by rfl) (.inl ⟨rfl, rfl⟩) (.inr ⟨_, _, rfl, rfl⟩)) ?_|refine BV (x4 (by rfl) (.inr ⟨_, _, rfl, rfl⟩) (.inl ⟨rfl, rfl⟩)) ?_|refine BP ?_)|(refine BK ?_;first|refine BS rfl rfl ?_|refine BT rfl rfl ?_|refine BU rfl ?_)|(refine BL ?_;first|refine BQ ?_)|(refine BR ?_;try simp only [setS]))|(refine BX ?_;first|refine BY rfl ?_|(refine BZ ?_;refine CA ?_)|refine CB (w4 (by rfl) (.inl ⟨rfl, rfl⟩) (.inr ⟨_, _, rfl, rfl⟩)) ?_|refine CB (x4 (by rfl) (.inr ⟨_, _, rfl, rfl⟩) (.inl ⟨rfl, rfl⟩)) ?_|refine CC ?_|(refine CD ?_;try simp only [setS]))|refine AA ?_|refine AC ?_|refine AD ?_|refine AE ?_|refine AF rfl rfl ?_|refine AG rfl rfl ?_|refine AH ?_|refine AI ?_|refine AJ ?_|refine AK ?_|refine AL ?_|refine AM ?_|refine AN ?_|refine AO ?_|refine AP ?_|refine AQ rfl ?_|refine AR ?_|refine AS ?_|refine AT rfl ?_|refine AU rfl ?_
        refine wd_alc (cs := []) ef_bs0 (by (try simp only [List.nil_append, List.cons_append]);repeat first|exact chk_nil|(apply chk_at;(focus exact rfl);first|exact pa_skp|(refine pa_mov ?_;first|exact (w4 (by rfl) (.inl ⟨rfl, rfl⟩) (.inr ⟨_, _, rfl, rfl⟩))|exact (x4 (by rfl) (.inr ⟨_, _, rfl, rfl⟩) (.inl ⟨rfl, rfl⟩))|exact rfl))) ?_
        have w1p := w1.up kp
        have x1p := x1.up kp
        have hpn : (h2.push (.rw [])).n = h2.n + 1 := rfl
        generalize h2.push (.rw []) = hp1 at *
        repeat first|(refine BG ?_;first|(refine BH ?_;first|(refine BI ?_;refine BM ?_)|(refine BJ ?_;first|refine BN ?_|refine BO ?_)|refine BP ?_)|(refine BK ?_;first|refine BS rfl rfl ?_|refine BT rfl rfl ?_|refine BU rfl ?_)|(refine BL ?_;first|refine BQ ?_)|(refine BR ?_;try simp only [setS]))|(refine BX ?_;first|refine BY rfl ?_|(refine BZ ?_;refine CA ?_)|refine CC ?_|(refine CD ?_;try simp only [setS]))|refine AA ?_|refine AC ?_|refine AD ?_|refine AE ?_|refine AF rfl rfl ?_|refine AG rfl rfl ?_|refine AH ?_|refine AI ?_|refine AJ ?_|refine AK ?_|refine AL ?_|refine AM ?_|refine AN ?_|refine AO ?_|refine AP ?_|refine AQ rfl ?_|refine AR ?_|refine AS ?_|refine AT rfl ?_|refine AU rfl ?_
        have kq : Keep NoB hp1 (hp1.push (.rw [.int .i64 s.t])) := Keep.push _ _ _
        have ky : RS (hp1.push (.rw [.int .i64 s.t])) 1 (.slice 1 hp1.n 0 1 (some 1)) 1 [.int .i64 s.t] := rs_push (n := 1) (z := 1) rfl
        have by_ : Bx (hp1.push (.rw [.int .i64 s.t])) hp1.n [.int .i64 s.t] := bx_push
        have K3' := kp.and kq
        have bzq := bz.up kq
        refine wd_alc (cs := [.int .i64 s.t]) (ef_bs1i rfl) (by (try simp only [List.nil_append, List.cons_append]);repeat first|exact chk_nil|(apply chk_at;(focus exact rfl);first|exact pa_skp|exact (pa_alc bzq.get)|(refine pa_mov ?_;first|exact (w4 (by rfl) (.inl ⟨rfl, rfl⟩) (.inr ⟨_, _, rfl, rfl⟩))|exact (x4 (by rfl) (.inr ⟨_, _, rfl, rfl⟩) (.inl ⟨rfl, rfl⟩))|exact rfl))) ?_
        have w1q := w1p.up kq
        have x1q := x1p.up kq
        have ozq := oz.up kq
        have hqn2 : (hp1.push (.rw [.int .i64 s.t])).n = h2.n + 2 := by rw [push_n, hpn]
        generalize hp1.push (.rw [.int .i64 s.t]) = hp2 at *
        repeat first|(refine BG ?_;first|(refine BH ?_;first|(refine BI ?_;refine BM ?_)|(refine BJ ?_;first|refine BN ?_|refine BO ?_)|refine BP ?_)|(refine BK ?_;first|refine BS rfl rfl ?_|refine BT rfl rfl ?_|refine BU rfl ?_)|(refine BL ?_;first|refine BQ ?_)|(refine BR ?_;try simp only [setS]))|(refine BX ?_;first|refine BY rfl ?_|(refine BZ ?_;refine CA ?_)|refine CC ?_|(refine CD ?_;try simp only [setS]))|refine AA ?_|refine AC ?_|refine AD ?_|refine AE ?_|refine AF rfl rfl ?_|refine AG rfl rfl ?_|refine AH ?_|refine AI ?_|refine AJ ?_|refine AK ?_|refine AL ?_|refine AM ?_|refine AN ?_|refine AO ?_|refine AP ?_|refine AQ rfl ?_|refine AR ?_|refine AS ?_|refine AT rfl ?_|refine AU rfl ?_
        refine wd_app rfl rfl ozq Nat.zero_lt_one w1q (by omega) (by omega) fun y h3 a1 a2 a3 => ?_
        rw [Nat.zero_add, List.nil_append] at a1
        have a2' : Keep (OneB h2.n) hp2 h3 := a2
        have K3 : Keep NoB h2 h3 := K3'.own a2' (fun k q => by have q : k = h2.n := q; omega)
        have lo3 : ∀ k, blk y k → k = h2.n ∨ h2.n + 2 ≤ k := fun k q => by
          rcases a3 k q with q | q
          · exact .inl q
          · right; omega
        have by3 := by_.keep a2' (fun q => by have q : hp1.n = h2.n := q; omega)
        have ky3 := ky.keep a2' (fun k q1 q2 => by have q1 : k = hp1.n := q1; have q2 : k = h2.n := q2; omega)
        have x13 := x1.up K3
        refine ⟨(by (try simp only [List.nil_append, List.cons_append]);repeat first|exact chk_nil|(apply chk_at;(focus exact rfl);first|exact pa_skp|exact (pa_alc by3.get)|(refine pa_mov ?_;first|exact (w4 (by rfl) (.inl ⟨rfl, rfl⟩) (.inr ⟨_, _, rfl, rfl⟩))|exact (x4 (by rfl) (.inr ⟨_, _, rfl, rfl⟩) (.inl ⟨rfl, rfl⟩))|exact rfl))), ?_⟩
        repeat first|(refine BG ?_;first|(refine BH ?_;first|(refine BI ?_;refine BM ?_)|(refine BJ ?_;first|refine BN ?_|refine BO ?_)|refine BP ?_)|(refine BK ?_;first|refine BS rfl rfl ?_|refine BT rfl rfl ?_|refine BU rfl ?_)|(refine BL ?_;first|refine BQ ?_)|(refine BR ?_;try simp only [setS]))|(refine BX ?_;first|refine BY rfl ?_|(refine BZ ?_;refine CA ?_)|refine CC ?_|(refine CD ?_;try simp only [setS]))|refine AA ?_|refine AC ?_|refine AD ?_|refine AE ?_|refine AF rfl rfl ?_|refine AG rfl rfl ?_|refine AH ?_|refine AI ?_|refine AJ ?_|refine AK ?_|refine AL ?_|refine AM ?_|refine AN ?_|refine AO ?_|refine AP ?_|refine AQ rfl ?_|refine AR ?_|refine AS ?_|refine AT rfl ?_|refine AU rfl ?_
        refine wd_app rfl rfl a1 Nat.zero_lt_one ky3 (by omega) (by omega) fun z h4 a4 a5 a6 => ?_
        have K4 : Keep NoB h2 h4 := K3.own a5 (fun k q => by have := lo3 k q; omega)
        have lo4 : ∀ k, blk z k → h2.n ≤ k := fun k q => by
          rcases a6 k q with q | q
          · have := lo3 k q; omega
          · have := K3.n; omega
        have x14 := x1.up K4
        refine ⟨(by (try simp only [List.nil_append, List.cons_append]);repeat first|exact chk_nil|(apply chk_at;(focus exact rfl);first|exact pa_skp|(refine pa_mov ?_;first|exact (x4 (by rfl) (.inr ⟨_, _, rfl, rfl⟩) (.inl ⟨rfl, rfl⟩))|exact rfl))), ?_⟩
        repeat first|(refine BG ?_;first|(refine BH ?_;first|(refine BI ?_;refine BM ?_)|(refine BJ ?_;first|refine BN ?_|refine BO ?_)|refine BP ?_)|(refine BK ?_;first|refine BS rfl rfl ?_|refine BT rfl rfl ?_|refine BU rfl ?_)|(refine BL ?_;first|refine BQ ?_)|(refine BR ?_;try simp only [setS]))|(refine BX ?_;first|refine BY rfl ?_|(refine BZ ?_;refine CA ?_)|refine CC ?_|(refine CD ?_;try simp only [setS]))|refine AA ?_|refine AC ?_|refine AD ?_|refine AE ?_|refine AF rfl rfl ?_|refine AG rfl rfl ?_|refine AH ?_|refine AI ?_|refine AJ ?_|refine AK ?_|refine AL ?_|refine AM ?_|refine AN ?_|refine AO ?_|refine AP ?_|refine AQ rfl ?_|refine AR ?_|refine AS ?_|refine AT rfl ?_|refine AU rfl ?_
        refine wd_app rfl rfl a4 Nat.zero_lt_one x14 (by omega) (by omega) fun u h5 a7 a8 a9 => ?_
        have K5 : Keep NoB h2 h5 := K4.own a8 lo4
        have eall : (T2.take k).map iv ++ [AV.int .i64 s.t] ++ (T2.drop k).map iv = (T2.take k ++ [s.t] ++ T2.drop k).map iv := by rw [List.map_append, List.map_append]; rfl
        have elen : (T2.take k ++ [s.t] ++ T2.drop k).length = T2.length + 1 := by rw [List.length_append, List.length_append, List.length_take, List.length_drop]; simp; omega
        rw [eall, show k + 1 + (T2.length - k) = T2.length + 1 by omega] at a7
        refine ⟨chk_nil, ?_⟩
        repeat first|(refine BG ?_;first|(refine BH ?_;first|(refine BI ?_;refine BM ?_)|(refine BJ ?_;first|refine BN ?_|refine BO ?_)|refine BP ?_)|(refine BK ?_;first|refine BS rfl rfl ?_|refine BT rfl rfl ?_|refine BU rfl ?_)|(refine BL ?_;first|refine BQ ?_)|(refine BR ?_;try simp only [setS]))|(refine BX ?_;first|refine BY rfl ?_|(refine BZ ?_;refine CA ?_)|refine CC ?_|(refine CD ?_;try simp only [setS]))|refine AA ?_|refine AC ?_|refine AD ?_|refine AE ?_|refine AF rfl rfl ?_|refine AG rfl rfl ?_|refine AH ?_|refine AI ?_|refine AJ ?_|refine AK ?_|refine AL ?_|refine AM ?_|refine AN ?_|refine AO ?_|refine AP ?_|refine AQ rfl ?_|refine AR ?_|refine AS ?_|refine AT rfl ?_|refine AU rfl ?_
        rw [show ((j : Int) + 1) = ((j + 1 : Nat) : Int) by omega]
        refine round_norm (n2 - 1) (by omega) ⟨j + 1, T2.take k ++ [s.t] ++ T2.drop k, u, _, _, _, _, _, by omega, by omega, K2.and K5, by omega, ins_rise hTr2 hlt' hgt, fun x => ?_, by rw [elen]; exact a7.rs, rfl⟩
        rw [ins_mem, hTm2, memj]
        constructor
        · rintro ((h | h) | h)
          · exact .inl h
          · exact .inr (.inl h)
          · exact .inr (.inr h.symm)
        · rintro (h | h | h)
          · exact .inl (.inl h)
          · exact .inl (.inr h)
          · exact .inr h.symm
    · obtain rfl : j = l.length := by omega
      repeat first|(refine BG ?_;first|(refine BH ?_;first|(refine BI ?_;refine BM ?_)|(refine BJ ?_;first|refine BN ?_|refine BO ?_)|refine BV (c0 rfl rfl) ?_|refine BV (lc K2 rfl) ?_|refine BV ((hser.up K2).rs.lenv (by rfl)) ?_|refine BP ?_)|(refine BK ?_;first|refine BS rfl rfl ?_|refine BT rfl rfl ?_|refine BU rfl ?_)|(refine BL ?_;first|refine BQ ?_)|(refine BR ?_;try simp only [setS]))|refine AA ?_|refine AC ?_|refine AD ?_|refine AE ?_|refine AF rfl rfl ?_|refine AG rfl rfl ?_|refine AH ?_|refine AI ?_|refine AJ ?_|refine AK ?_|refine AL ?_|refine AM ?_|refine AN ?_|refine AO ?_|refine AP ?_|refine AQ rfl ?_|refine AR ?_|refine AS ?_|refine AT rfl ?_|refine AU rfl ?_
      rw [show ((i : Int) + 1) = ((i + 1 : Nat) : Int) by omega]
      refine round_norm (n - 1) (by omega) ⟨i + 1, T2, v2, _, _, _, _, _, _, _, by omega, by omega, K2, by omega, hTr2, fun x => ?_, rT2, rfl⟩
      rw [hTm2, hTm, List.take_length, List.take_add_one, hl]
      constructor
      · rintro (⟨l', hl', r⟩ | r)
        · exact ⟨l', List.mem_append_left _ hl', r⟩
        · exact ⟨l, List.mem_append_right _ (by simp), r⟩
      · rintro ⟨l', hl', r⟩
        rcases List.mem_append.1 hl' with hl' | hl'
        · exact .inl ⟨l', hl', r⟩
        · simp at hl'; subst hl'; exact .inr r
  · obtain rfl : i = ls.length := by omega
    have e : T = timesF ls := rise_uniq hTr (timesF_rise ls) fun x => by rw [hTm, List.take_length, timesF_mem]
    subst e
    repeat first|(refine BG ?_;first|(refine BH ?_;first|(refine BI ?_;refine BM ?_)|(refine BJ ?_;first|refine BN ?_|refine BO ?_)|refine BV ((hrs.up K).lenv (by rfl)) ?_|refine BP ?_)|(refine BK ?_;first|refine BS rfl rfl ?_|refine BT rfl rfl ?_|refine BU rfl ?_)|(refine BL ?_;first|refine BQ ?_)|(refine BR ?_;try simp only [setS]))|refine AA ?_|refine AC ?_|refine AD ?_|refine AE ?_|refine AF rfl rfl ?_|refine AG rfl rfl ?_|refine AH ?_|refine AI ?_|refine AJ ?_|refine AK ?_|refine AL ?_|refine AM ?_|refine AN ?_|refine AO ?_|refine AP ?_|refine AQ rfl ?_|refine AR ?_|refine AS ?_|refine AT rfl ?_|refine AU rfl ?_
    exact ⟨K, rT⟩
end
end Am
end Go.Proofs.Ytkgplkddpigagaa
