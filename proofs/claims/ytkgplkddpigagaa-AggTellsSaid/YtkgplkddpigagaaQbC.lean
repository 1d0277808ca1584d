/- Layer 23: the document's Cmp; series that are made. -/
import Derived.Test.YtkgplkddpigagaaQbS
set_option linter.unusedVariables false
set_option linter.unusedSimpArgs false
namespace Go.Proofs.Ytkgplkddpigagaa
namespace Am
open Go.RowKit
set_option maxRecDepth 100000
def b_ref1Cmp : BF := ⟨48, [0, 1, 2, 3, 4, 5, 6, 11, 18, 21, 24, 36], (.seq (.reg [.mk none (.slot 2) (.eff (.box (.slot 0))), .mk none (.slot 3) (.eff (.box (.slot 1))), .mk none (.slot 4) (.mov (.mv (.const (.int .i64 0))))]) (.seq (.dreg [(.mk none (.env 7) (.mov (.ldn 2 (.slot 2))), []), (.mk none (.env 9) (.mov (.ldn 2 (.slot 3))), []), (.mk none (.env 8) (.call 28 [(.env 7)]), [1]), (.mk none (.env 10) (.call 28 [(.env 9)]), []), (.mk none (.slot 5) (.mov (.mv (.env 8))), []), (.mk none (.slot 6) (.mov (.mv (.env 10))), [])]) (.seq (.block 0 (.seq (.reg [.mk none (.env 12) (.mov (.mv (.slot 5))), .mk none (.env 13) (.mov (.notb (.env 12))), .mk none (.env 14) (.mov (.mv (.env 13))), .mk (some ((.env 14), true)) (.env 15) (.mov (.mv (.slot 6))), .mk (some ((.env 14), true)) (.env 16) (.mov (.notb (.env 15))), .mk none (.env 17) (.mov (.pick (.env 14) (.env 16) (.const (.bool false)))), .mk none (.slot 7) (.mov (.mv (.env 17)))]) (.cond (.slot 7) (.seq (.reg [.mk none (.slot 4) (.mov (.mv (.const (.int .i64 0))))]) .ret) (.seq (.reg [.mk none (.env 19) (.mov (.mv (.slot 5))), .mk none (.env 20) (.mov (.notb (.env 19))), .mk none (.slot 8) (.mov (.mv (.env 20)))]) (.cond (.slot 8) (.seq (.reg [.mk none (.slot 4) (.mov (.mv (.const (.int .i64 (-1)))))]) .ret) (.seq (.reg [.mk none (.env 22) (.mov (.mv (.slot 6))), .mk none (.env 23) (.mov (.notb (.env 22))), .mk none (.slot 9) (.mov (.mv (.env 23)))]) (.cond (.slot 9) (.seq (.reg [.mk none (.slot 4) (.mov (.mv (.const (.int .i64 1))))]) .ret) (.seq (.reg [.mk none (.env 25) (.mov (.faddr 0 (.slot 2))), .mk none (.env 26) (.mov (.ld1 (.env 25))), .mk none (.env 27) (.mov (.faddr 1 (.slot 3))), .mk none (.env 28) (.mov (.ld1 (.env 27))), .mk none (.env 29) (.mov (.bin .mul .no (.env 26) (.env 28))), .mk none (.env 30) (.mov (.faddr 0 (.slot 3))), .mk none (.env 31) (.mov (.ld1 (.env 30))), .mk none (.env 32) (.mov (.faddr 1 (.slot 2))), .mk none (.env 33) (.mov (.ld1 (.env 32))), .mk none (.env 34) (.mov (.bin .mul .no (.env 31) (.env 33))), .mk none (.env 35) (.mov (.bin .lss .no (.env 29) (.env 34))), .mk none (.slot 10) (.mov (.mv (.env 35)))]) (.cond (.slot 10) (.seq (.reg [.mk none (.slot 4) (.mov (.mv (.const (.int .i64 (-1)))))]) .ret) (.seq (.reg [.mk none (.env 37) (.mov (.faddr 0 (.slot 2))), .mk none (.env 38) (.mov (.ld1 (.env 37))), .mk none (.env 39) (.mov (.faddr 1 (.slot 3))), .mk none (.env 40) (.mov (.ld1 (.env 39))), .mk none (.env 41) (.mov (.bin .mul .no (.env 38) (.env 40))), .mk none (.env 42) (.mov (.faddr 0 (.slot 3))), .mk none (.env 43) (.mov (.ld1 (.env 42))), .mk none (.env 44) (.mov (.faddr 1 (.slot 2))), .mk none (.env 45) (.mov (.ld1 (.env 44))), .mk none (.env 46) (.mov (.bin .mul .no (.env 43) (.env 45))), .mk none (.env 47) (.mov (.bin .gtr .no (.env 41) (.env 46))), .mk none (.slot 11) (.mov (.mv (.env 47)))]) (.cond (.slot 11) (.seq (.reg [.mk none (.slot 4) (.mov (.mv (.const (.int .i64 1))))]) .ret) .skip))))))))))) (.seq (.reg [.mk none (.slot 4) (.mov (.mv (.const (.int .i64 0))))]) .ret)))), [.slot (.slot 4)]⟩
def b_w23made : BF := ⟨39, [0, 1, 2, 6, 7, 8, 9, 18, 24], (.seq (.reg [.mk none (.slot 3) (.mov (.mv (.const .snil)))]) (.seq (.reg [.mk none (.slot 4) (.mov (.mv (.const .snil)))]) (.seq (.seq (.reg [.mk none (.slot 5) (.mov (.mv (.const (.int .i64 0))))]) (.block 0 (.loop (.seq (.seq (.reg [.mk none (.env 10) (.mov (.mv (.slot 5))), .mk none (.env 11) (.mov (.mv (.slot 0))), .mk none (.env 12) (.mov (.lenv (.env 11))), .mk none (.env 13) (.mov (.bin .lss .no (.env 10) (.env 12))), .mk none (.env 14) (.mov (.mv (.env 13))), .mk (some ((.env 14), true)) (.env 15) (.mov (.mv (.slot 5))), .mk (some ((.env 14), true)) (.env 16) (.mov (.mv (.slot 2))), .mk (some ((.env 14), true)) (.env 17) (.mov (.bin .lss .no (.env 15) (.env 16))), .mk none (.slot 7) (.mov (.pick (.env 14) (.env 17) (.const (.bool false))))]) (.cond (.slot 7) .skip (.exit 0))) (.seq (.block 1 (.seq (.reg [.mk none (.slot 6) (.mov (.mv (.const .snil)))]) (.seq (.seq (.reg [.mk none (.env 21) (.mov (.mv (.slot 5))), .mk none (.env 22) (.mov (.mv (.slot 1))), .mk none (.env 23) (.mov (.lenv (.env 22))), .mk none (.slot 8) (.mov (.bin .lss .no (.env 21) (.env 23)))]) (.cond (.slot 8) (.reg [.mk none (.env 25) (.mov (.mv (.slot 1))), .mk none (.env 26) (.mov (.mv (.slot 5))), .mk none (.env 27) (.mov (.iaddr 1 (.env 25) (.env 26))), .mk none (.env 28) (.mov (.ld1 (.env 27))), .mk none (.slot 6) (.mov (.mv (.env 28)))]) .skip)) (.reg [.mk none (.env 29) (.mov (.mv (.slot 4))), .mk none (.env 30) (.mov (.mv (.slot 0))), .mk none (.env 31) (.mov (.mv (.slot 5))), .mk none (.env 32) (.mov (.iaddr 1 (.env 30) (.env 31))), .mk none (.env 33) (.mov (.ld1 (.env 32))), .mk none (.env 34) (.mov (.mv (.slot 6))), .mk none (.env 35) (.call 11 [(.env 33), (.env 34), (.const (.int .i64 8))]), .mk none (.env 36) (.eff (.bslice 1 1 [.snil] [(0, 1, (.env 35))])), .mk none (.env 37) (.eff (.append 1 24 (.env 29) (.env 36))), .mk none (.slot 4) (.mov (.mv (.env 37)))])))) (.reg [.mk none (.env 19) (.mov (.mv (.slot 5))), .mk none (.env 20) (.mov (.bin .add .no (.env 19) (.const (.int .i64 1)))), .mk none (.slot 5) (.mov (.mv (.env 20)))])))))) (.seq (.reg [.mk none (.env 38) (.mov (.mv (.slot 4))), .mk none (.slot 3) (.mov (.mv (.env 38)))]) .ret)))), [.slot (.slot 3)]⟩
theorem cmpQ_gt {a b : QQ} (ha : RightQ a) (hb : RightQ b) (h1 : ¬ a.1 * b.2 < b.1 * a.2) : cmpQ a b = if b.1 * a.2 < a.1 * b.2 then 1 else 0 := by
  unfold cmpQ
  rw [if_neg h1]
  by_cases h2 : a = b
  · subst h2; rw [if_pos rfl, if_neg (by omega)]
  · rw [if_neg h2]
    by_cases h3 : b.1 * a.2 < a.1 * b.2
    · rw [if_pos h3]
    · exact absurd (rightQ_uniq ha hb (by omega)) h2
section
variable {X : Type} {E : Nat → Option (Ent X)}
set_option maxHeartbeats 2000000 in
theorem rcmp_ok (hE : ∀ f e, E f = some e → e.plain) (T : QrT E) (hf : E 17 = some (.bc b_ref1Cmp)) {h : Hp X} {a b : QQ} (ha : I64Q a) (hb : I64Q b) : WF (lim E) 17 [qv a, qv b] h fun x h' => Keep NoB h h' ∧ x = .int .i64 (cmpF a b) := by
  refine wf_bc hE hf rfl ?_
  simp only [b_ref1Cmp, List.map, getS]
  obtain ⟨bA, bB, kp⟩ := box2 h [.int .i64 a.1, .int .i64 a.2] [.int .i64 b.1, .int .i64 b.2]
  repeat first|(refine BG ?_;first|(refine BH ?_;first|(refine BI ?_;refine BM ?_)|(refine BJ ?_;first|refine BN ?_|refine BO ?_)|refine BP ?_)|(refine BK ?_;first|refine BS rfl rfl ?_|refine BT rfl rfl ?_|refine BU rfl ?_)|(refine BL ?_;first|refine BW (ef_box rfl int_all2) ?_|refine BQ ?_)|(refine BR ?_;try simp only [setS]))|refine AA ?_|refine AC ?_|refine AD ?_|refine AF rfl rfl ?_|refine AG rfl rfl ?_|refine AH ?_|refine AI ?_|refine AJ ?_|refine AK ?_|refine AL ?_|refine AM ?_|refine AN ?_|refine AO ?_|refine AP ?_|refine AQ rfl ?_|refine AR ?_|refine AS ?_|refine AT rfl ?_|refine AU rfl ?_
  repeat first|(refine BG ?_;first|(refine BH ?_;first|(refine BI ?_;refine BM ?_)|(refine BJ ?_;first|refine BN ?_|refine BO ?_)|refine BV (v_bxn bA rfl (Nat.le_refl _)) ?_|refine BV (v_bxn bB rfl (Nat.le_refl _)) ?_|refine BP ?_)|(refine BK ?_;first|refine BS rfl rfl ?_|refine BT rfl rfl ?_|refine BU rfl ?_)|(refine BL ?_;first|refine BQ ?_)|(refine BR ?_;try simp only [setS]))|(refine BX ?_;first|refine BY rfl ?_|(refine BZ ?_;refine CA ?_)|refine CB (v_bxn bA rfl (Nat.le_refl _)) ?_|refine CB (v_bxn bB rfl (Nat.le_refl _)) ?_|refine CC ?_|(refine CD ?_;try simp only [setS]))|refine AA ?_|refine AC ?_|refine AD ?_|refine AE ?_|refine AF rfl rfl ?_|refine AG rfl rfl ?_|refine AH ?_|refine AI ?_|refine AJ ?_|refine AK ?_|refine AL ?_|refine AM ?_|refine AN ?_|refine AO ?_|refine AP ?_|refine AQ rfl ?_|refine AR ?_|refine AS ?_|refine AT rfl ?_|refine AU rfl ?_
  refine wd_calls_e rfl ((rright_ok hE T ha).mono fun x h4 ⟨k4, e4⟩ => ?_)
  subst e4
  have bA := bA.up k4
  have bB := bB.up k4
  refine ⟨(by (try simp only [List.nil_append, List.cons_append]);repeat first|exact chk_nil|(apply chk_at;(focus exact rfl);first|exact pa_skp|(refine pa_mov ?_;first|exact (v_bxn bB rfl (Nat.le_refl _))|exact rfl))), ?_⟩
  repeat first|(refine BG ?_;first|(refine BH ?_;first|(refine BI ?_;refine BM ?_)|(refine BJ ?_;first|refine BN ?_|refine BO ?_)|refine BP ?_)|(refine BK ?_;first|refine BS rfl rfl ?_|refine BT rfl rfl ?_|refine BU rfl ?_)|(refine BL ?_;first|refine BQ ?_)|(refine BR ?_;try simp only [setS]))|(refine BX ?_;first|refine BY rfl ?_|(refine BZ ?_;refine CA ?_)|refine CC ?_|(refine CD ?_;try simp only [setS]))|refine AA ?_|refine AC ?_|refine AD ?_|refine AE ?_|refine AF rfl rfl ?_|refine AG rfl rfl ?_|refine AH ?_|refine AI ?_|refine AJ ?_|refine AK ?_|refine AL ?_|refine AM ?_|refine AN ?_|refine AO ?_|refine AP ?_|refine AQ rfl ?_|refine AR ?_|refine AS ?_|refine AT rfl ?_|refine AU rfl ?_
  refine wd_calls_e rfl ((rright_ok hE T hb).mono fun x h5 ⟨k5, e5⟩ => ?_)
  subst e5
  have bA := bA.up k5
  have bB := bB.up k5
  have K5 := (kp.and k4).and k5
  refine ⟨chk_nil, ?_⟩
  unfold cmpF
  rcases Bool.eq_false_or_eq_true (rightF a) with hra | hra
  · rcases Bool.eq_false_or_eq_true (rightF b) with hrb | hrb
    · have x := right_iff.1 hra
      have y := right_iff.1 hrb
      rw [if_neg (by rw [hra]; simp), if_neg (by rw [hra]; simp), if_neg (by rw [hrb]; simp)]
      rw [hra, hrb]
      have m1 := mulN x.n y.d
      have m2 := mulN y.n x.d
      by_cases h1 : a.1 * b.2 < b.1 * a.2
      · unfold cmpQ
        rw [if_pos h1]
        repeat first|(refine BG ?_;first|(refine BH ?_;first|(refine BI ?_;refine BM ?_)|(refine BJ ?_;first|refine BN ?_|refine BO ?_)|refine BV (v_notb rfl) ?_|refine BV (v_bx bA rfl rfl) ?_|refine BV (v_bx bB rfl rfl) ?_|refine BV (v_muli rfl rfl m1) ?_|refine BV (v_muli rfl rfl m2) ?_|refine BP ?_)|(refine BK ?_;first|refine BS rfl rfl ?_|refine BT rfl rfl ?_|refine BU rfl ?_)|(refine BL ?_;first|refine BQ ?_)|(refine BR ?_;try simp only [setS]))|(refine BX ?_;first|refine BY rfl ?_|(refine BZ ?_;refine CA ?_)|refine CB (v_notb rfl) ?_|refine CB (v_bx bA rfl rfl) ?_|refine CB (v_bx bB rfl rfl) ?_|refine CB (v_muli rfl rfl m1) ?_|refine CB (v_muli rfl rfl m2) ?_|refine CC ?_|(refine CD ?_;try simp only [setS]))|refine AA ?_|refine AC ?_|refine AD ?_|refine AE ?_|refine AF rfl rfl ?_|refine AG rfl rfl ?_|refine AH ?_|refine AI ?_|refine AJ ?_|refine AK ?_|refine AL ?_|refine AM ?_|refine AN ?_|refine AO ?_|refine AP ?_|refine AQ rfl ?_|refine AR ?_|refine AS ?_|refine AT rfl ?_|refine AU rfl ?_
        exact ⟨K5, rfl⟩
      · rw [cmpQ_gt x y h1]
        by_cases h2 : b.1 * a.2 < a.1 * b.2
        · rw [if_pos h2]
          repeat first|(refine BG ?_;first|(refine BH ?_;first|(refine BI ?_;refine BM ?_)|(refine BJ ?_;first|refine BN ?_|refine BO ?_)|refine BV (v_notb rfl) ?_|refine BV (v_bx bA rfl rfl) ?_|refine BV (v_bx bB rfl rfl) ?_|refine BV (v_muli rfl rfl m1) ?_|refine BV (v_muli rfl rfl m2) ?_|refine BP ?_)|(refine BK ?_;first|refine BS rfl rfl ?_|refine BT rfl rfl ?_|refine BU rfl ?_)|(refine BL ?_;first|refine BQ ?_)|(refine BR ?_;try simp only [setS]))|(refine BX ?_;first|refine BY rfl ?_|(refine BZ ?_;refine CA ?_)|refine CB (v_notb rfl) ?_|refine CB (v_bx bA rfl rfl) ?_|refine CB (v_bx bB rfl rfl) ?_|refine CB (v_muli rfl rfl m1) ?_|refine CB (v_muli rfl rfl m2) ?_|refine CC ?_|(refine CD ?_;try simp only [setS]))|refine AA ?_|refine AC ?_|refine AD ?_|refine AE ?_|refine AF rfl rfl ?_|refine AG rfl rfl ?_|refine AH ?_|refine AI ?_|refine AJ ?_|refine AK ?_|refine AL ?_|refine AM ?_|refine AN ?_|refine AO ?_|refine AP ?_|refine AQ rfl ?_|refine AR ?_|refine AS ?_|refine AT rfl ?_|refine AU rfl ?_
          exact ⟨K5, rfl⟩
        · rw [if_neg h2]
          repeat first|(refine BG ?_;first|(refine BH ?_;first|(refine BI ?_;refine BM ?_)|(refine BJ ?_;first|refine BN ?_|refine BO ?_)|refine BV (v_notb rfl) ?_|refine BV (v_bx bA rfl rfl) ?_|refine BV (v_bx bB rfl rfl) ?_|refine BV (v_muli rfl rfl m1) ?_|refine BV (v_muli rfl rfl m2) ?_|refine BP ?_)|(refine BK ?_;first|refine BS rfl rfl ?_|refine BT rfl rfl ?_|refine BU rfl ?_)|(refine BL ?_;first|refine BQ ?_)|(refine BR ?_;try simp only [setS]))|(refine BX ?_;first|refine BY rfl ?_|(refine BZ ?_;refine CA ?_)|refine CB (v_notb rfl) ?_|refine CB (v_bx bA rfl rfl) ?_|refine CB (v_bx bB rfl rfl) ?_|refine CB (v_muli rfl rfl m1) ?_|refine CB (v_muli rfl rfl m2) ?_|refine CC ?_|(refine CD ?_;try simp only [setS]))|refine AA ?_|refine AC ?_|refine AD ?_|refine AE ?_|refine AF rfl rfl ?_|refine AG rfl rfl ?_|refine AH ?_|refine AI ?_|refine AJ ?_|refine AK ?_|refine AL ?_|refine AM ?_|refine AN ?_|refine AO ?_|refine AP ?_|refine AQ rfl ?_|refine AR ?_|refine AS ?_|refine AT rfl ?_|refine AU rfl ?_
          exact ⟨K5, rfl⟩
    · rw [if_neg (by rw [hra]; simp), if_neg (by rw [hra]; simp), if_pos hrb, hra, hrb]
      repeat first|(refine BG ?_;first|(refine BH ?_;first|(refine BI ?_;refine BM ?_)|(refine BJ ?_;first|refine BN ?_|refine BO ?_)|refine BV (v_notb rfl) ?_|refine BP ?_)|(refine BK ?_;first|refine BS rfl rfl ?_|refine BT rfl rfl ?_|refine BU rfl ?_)|(refine BL ?_;first|refine BQ ?_)|(refine BR ?_;try simp only [setS]))|(refine BX ?_;first|refine BY rfl ?_|(refine BZ ?_;refine CA ?_)|refine CB (v_notb rfl) ?_|refine CC ?_|(refine CD ?_;try simp only [setS]))|refine AA ?_|refine AC ?_|refine AD ?_|refine AE ?_|refine AF rfl rfl ?_|refine AG rfl rfl ?_|refine AH ?_|refine AI ?_|refine AJ ?_|refine AK ?_|refine AL ?_|refine AM ?_|refine AN ?_|refine AO ?_|refine AP ?_|refine AQ rfl ?_|refine AR ?_|refine AS ?_|refine AT rfl ?_|refine AU rfl ?_
      exact ⟨K5, rfl⟩
  · rcases Bool.eq_false_or_eq_true (rightF b) with hrb | hrb
    · rw [if_neg (by rw [hrb]; simp), if_pos hra, hra, hrb]
      repeat first|(refine BG ?_;first|(refine BH ?_;first|(refine BI ?_;refine BM ?_)|(refine BJ ?_;first|refine BN ?_|refine BO ?_)|refine BV (v_notb rfl) ?_|refine BP ?_)|(refine BK ?_;first|refine BS rfl rfl ?_|refine BT rfl rfl ?_|refine BU rfl ?_)|(refine BL ?_;first|refine BQ ?_)|(refine BR ?_;try simp only [setS]))|(refine BX ?_;first|refine BY rfl ?_|(refine BZ ?_;refine CA ?_)|refine CB (v_notb rfl) ?_|refine CC ?_|(refine CD ?_;try simp only [setS]))|refine AA ?_|refine AC ?_|refine AD ?_|refine AE ?_|refine AF rfl rfl ?_|refine AG rfl rfl ?_|refine AH ?_|refine AI ?_|refine AJ ?_|refine AK ?_|refine AL ?_|refine AM ?_|refine AN ?_|refine AO ?_|refine AP ?_|refine AQ rfl ?_|refine AR ?_|refine AS ?_|refine AT rfl ?_|refine AU rfl ?_
      exact ⟨K5, rfl⟩
    · rw [if_pos ⟨hra, hrb⟩, hra, hrb]
      repeat first|(refine BG ?_;first|(refine BH ?_;first|(refine BI ?_;refine BM ?_)|(refine BJ ?_;first|refine BN ?_|refine BO ?_)|refine BV (v_notb rfl) ?_|refine BP ?_)|(refine BK ?_;first|refine BS rfl rfl ?_|refine BT rfl rfl ?_|refine BU rfl ?_)|(refine BL ?_;first|refine BQ ?_)|(refine BR ?_;try simp only [setS]))|(refine BX ?_;first|refine BY rfl ?_|(refine BZ ?_;refine CA ?_)|refine CB (v_notb rfl) ?_|refine CC ?_|(refine CD ?_;try simp only [setS]))|refine AA ?_|refine AC ?_|refine AD ?_|refine AE ?_|refine AF rfl rfl ?_|refine AG rfl rfl ?_|refine AH ?_|refine AI ?_|refine AJ ?_|refine AK ?_|refine AL ?_|refine AM ?_|refine AN ?_|refine AO ?_|refine AP ?_|refine AQ rfl ?_|refine AR ?_|refine AS ?_|refine AT rfl ?_|refine AU rfl ?_
      exact ⟨K5, rfl⟩
theorem ints_nil {h : Hp X} : Ints h .snil [] := ⟨⟨rfl, rfl⟩, by simp, fun x hx => by cases hx⟩
set_option maxHeartbeats 2000000 in
theorem made_ok (hE : ∀ f e, E f = some e → e.plain) (T : QsT E) (hf : E 7 = some (.bc b_w23made)) {h : Hp X} {v w : AV} {st vs : List (List Int)} (a : IntssAt h v st) (b : IntssAt h w vs) {most : Nat} (hm : most ≤ 10) :
    WF (lim E) 7 [v, w, .int .i64 most] h fun x h' => Keep NoB h h' ∧ ∃ cs ls, SerO h' h.n x cs ls ∧ ls.length ≤ most ∧ ∀ l ∈ ls, ∃ s, Smp l s 8 := by
  refine wf_bc hE hf rfl ?_
  simp only [b_w23made, List.map, getS]
  have hmx : (maxLen : Nat) = 9223372036854775807 := rfl
  obtain ⟨vc, hrv, hav⟩ := a.out
  obtain ⟨wc, hrw, hat⟩ := b.out
  have hvl := a.len
  have hwl := b.len
  repeat first|(refine BG ?_;first|(refine BH ?_;first|(refine BI ?_;refine BM ?_)|(refine BJ ?_;first|refine BN ?_|refine BO ?_)|refine BP ?_)|(refine BK ?_;first|refine BS rfl rfl ?_|refine BT rfl rfl ?_|refine BU rfl ?_)|(refine BL ?_;first|refine BQ ?_)|(refine BR ?_;try simp only [setS]))|refine AA ?_|refine AC ?_|refine AD ?_|refine AE ?_|refine AF rfl rfl ?_|refine AG rfl rfl ?_|refine AH ?_|refine AI ?_|refine AJ ?_|refine AK ?_|refine AL ?_|refine AM ?_|refine AN ?_|refine AO ?_|refine AP ?_|refine AQ rfl ?_|refine AR ?_|refine AS ?_|refine AT rfl ?_|refine AU rfl ?_
  refine wb_loop (fun n t hh => ∃ (i : Nat) (vo s6 s7 s8 : AV) (cs : List AV) (ls : List (List SM)), i ≤ st.length ∧ i ≤ most ∧ n = most - i ∧ Keep NoB h hh ∧ SerO hh h.n vo cs ls ∧ ls.length = i ∧ (∀ l ∈ ls, ∃ s, Smp l s 8) ∧ t = [v, w, .int .i64 most, .snil, vo, .int .i64 i, s6, s7, s8]) ?_ most _ _ ⟨0, .snil, _, _, _, [], [], by omega, by omega, by omega, Keep.refl _ _, .nil, rfl, (fun l hl => by cases hl), rfl⟩
  rintro n t hh ⟨i, vo, s6, s7, s8, cs, ls, hi1, hi2, hn, K, so, hli, hsm, rfl⟩
  by_cases hlt1 : i < st.length
  · by_cases hlt2 : i < most
    · obtain ⟨sl, hsi⟩ : ∃ l, st[i]? = some l := ⟨_, List.getElem?_eq_getElem hlt1⟩
      obtain ⟨z, hzi⟩ : ∃ y, vc[i]? = some y := ⟨_, List.getElem?_eq_getElem (by have := hrv.len; omega)⟩
      have p := hav i z sl hzi hsi
      obtain ⟨g, o, c0, c1⟩ := (hrv.up K).at2 hlt1
      have lc : ∀ {e : En} {t : List AV} {x : Od}, x.ev e t = .ptr g o → (Mv.ld1 x).ev e t hh = some z := fun hx => by rw [c1 (Keep.refl NoB hh) (fun _ _ q => q) hx]; exact hzi
      have hcm : decide ((i : Int) < (most : Nat)) = true := decide_eq_true (by omega)
      repeat first|(refine BG ?_;first|(refine BH ?_;first|(refine BI ?_;refine BM ?_)|(refine BJ ?_;first|refine BN ?_|refine BO ?_)|refine BV (hrv.lenv (by rfl)) ?_|refine BV ((hrv.up K).lenv (by rfl)) ?_|refine BV ((hrw.up K).lenv (by rfl)) ?_|refine BV (v_cmp rfl rfl rfl) ?_|refine BP ?_)|(refine BK ?_;first|refine BS rfl rfl ?_|refine BT rfl rfl ?_|refine BU rfl ?_)|(refine BL ?_;first|refine BQ ?_)|(refine BR ?_;try simp only [setS]))|refine AA ?_|refine AC ?_|refine AD ?_|refine AE ?_|refine AF rfl rfl ?_|refine AG rfl rfl ?_|refine AH ?_|refine AI ?_|refine AJ ?_|refine AK ?_|refine AL ?_|refine AM ?_|refine AN ?_|refine AO ?_|refine AP ?_|refine AQ rfl ?_|refine AR ?_|refine AS ?_|refine AT rfl ?_|refine AU rfl ?_
      refine wb_mid (fun t' h' => h' = hh ∧ ∃ (y s8 : AV) (vl : List Int), Ints hh y vl ∧ t' = [v, w, .int .i64 most, .snil, vo, .int .i64 i, y, .bool true, s8]) ?_ ?_
      · by_cases hv : i < vs.length
        · obtain ⟨vl, hvi⟩ : ∃ l, vs[i]? = some l := ⟨_, List.getElem?_eq_getElem hv⟩
          obtain ⟨y, hyi⟩ : ∃ y, wc[i]? = some y := ⟨_, List.getElem?_eq_getElem (by have := hrw.len; omega)⟩
          have q := hat i y vl hyi hvi
          obtain ⟨g', o', d0, d1⟩ := (hrw.up K).at2 hv
          have ld : ∀ {e : En} {t : List AV} {x : Od}, x.ev e t = .ptr g' o' → (Mv.ld1 x).ev e t hh = some y := fun hx => by rw [d1 (Keep.refl NoB hh) (fun _ _ q => q) hx]; exact hyi
          rw [decide_eq_true (show (i : Int) < (vs.length : Nat) by omega)]
          repeat first|(refine BG ?_;first|(refine BH ?_;first|(refine BI ?_;refine BM ?_)|(refine BJ ?_;first|refine BN ?_|refine BO ?_)|refine BV (d0 rfl rfl) ?_|refine BV (ld rfl) ?_|refine BP ?_)|(refine BK ?_;first|refine BS rfl rfl ?_|refine BT rfl rfl ?_|refine BU rfl ?_)|(refine BL ?_;first|refine BQ ?_)|(refine BR ?_;try simp only [setS]))|refine AA ?_|refine AC ?_|refine AD ?_|refine AE ?_|refine AF rfl rfl ?_|refine AG rfl rfl ?_|refine AH ?_|refine AI ?_|refine AJ ?_|refine AK ?_|refine AL ?_|refine AM ?_|refine AN ?_|refine AO ?_|refine AP ?_|refine AQ rfl ?_|refine AR ?_|refine AS ?_|refine AT rfl ?_|refine AU rfl ?_
          exact mid_norm ⟨rfl, y, _, vl, ⟨q.1.up K, q.2.2, q.2.1⟩, rfl⟩
        · rw [decide_eq_false (show ¬ (i : Int) < (vs.length : Nat) by omega)]
          repeat first|(refine BG ?_;first|(refine BH ?_;first|(refine BI ?_;refine BM ?_)|(refine BJ ?_;first|refine BN ?_|refine BO ?_)|refine BP ?_)|(refine BK ?_;first|refine BS rfl rfl ?_|refine BT rfl rfl ?_|refine BU rfl ?_)|(refine BL ?_;first|refine BQ ?_)|(refine BR ?_;try simp only [setS]))|refine AA ?_|refine AC ?_|refine AD ?_|refine AE ?_|refine AF rfl rfl ?_|refine AG rfl rfl ?_|refine AH ?_|refine AI ?_|refine AJ ?_|refine AK ?_|refine AL ?_|refine AM ?_|refine AN ?_|refine AO ?_|refine AP ?_|refine AQ rfl ?_|refine AR ?_|refine AS ?_|refine AT rfl ?_|refine AU rfl ?_
          exact mid_norm ⟨rfl, .snil, _, [], ints_nil, rfl⟩
      rintro t' h' ⟨eh, y, s8, vl, iy, rfl⟩
      have eh := eh.symm
      subst eh
      repeat first|(refine BG ?_;first|(refine BH ?_;first|(refine BI ?_;refine BM ?_)|(refine BJ ?_;first|refine BN ?_|refine BO ?_)|refine BV (c0 rfl rfl) ?_|refine BV (lc rfl) ?_|refine BP ?_)|(refine BK ?_;first|refine BS rfl rfl ?_|refine BT rfl rfl ?_|refine BU rfl ?_)|(refine BL ?_;first|refine BQ ?_)|(refine BR ?_;try simp only [setS]))|refine AA ?_|refine AC ?_|refine AD ?_|refine AE ?_|refine AF rfl rfl ?_|refine AG rfl rfl ?_|refine AH ?_|refine AI ?_|refine AJ ?_|refine AK ?_|refine AL ?_|refine AM ?_|refine AN ?_|refine AO ?_|refine AP ?_|refine AQ rfl ?_|refine AR ?_|refine AS ?_|refine AT rfl ?_|refine AU rfl ?_
      refine wr_call_e rfl ((smp_ok hE T (⟨p.1.up K, p.2.2, p.2.1⟩ : Ints hh z sl) iy (most := 8) (by omega)).mono fun sv h1 ⟨k1, l, sl, hbl, sm⟩ => ?_)
      have K1 := K.and k1
      have n1 := K.n
      repeat first|(refine BG ?_;first|(refine BH ?_;first|(refine BI ?_;refine BM ?_)|(refine BJ ?_;first|refine BN ?_|refine BO ?_)|refine BP ?_)|(refine BK ?_;first|refine BS rfl rfl ?_|refine BT rfl rfl ?_|refine BU rfl ?_)|(refine BL ?_;first|refine BW (ef_bs1' rfl sl.one.1 sl.one.2) ?_|refine BQ ?_)|(refine BR ?_;try simp only [setS]))|refine AA ?_|refine AC ?_|refine AD ?_|refine AE ?_|refine AF rfl rfl ?_|refine AG rfl rfl ?_|refine AH ?_|refine AI ?_|refine AJ ?_|refine AK ?_|refine AL ?_|refine AM ?_|refine AN ?_|refine AO ?_|refine AP ?_|refine AQ rfl ?_|refine AR ?_|refine AS ?_|refine AT rfl ?_|refine AU rfl ?_
      have kq : Keep NoB h1 (h1.push (.rw [sv])) := Keep.push _ _ _
      have n2 := K1.n
      refine wr_app_e rfl rfl ((so.up k1).up kq).o (by decide) (rs_push (n := 1) (z := 1) rfl) (by omega) (by omega) fun v' h' a1 a2 a3 => ?_
      have K7 := (K1.and kq).own a2 so.lo
      repeat first|(refine BG ?_;first|(refine BH ?_;first|(refine BI ?_;refine BM ?_)|(refine BJ ?_;first|refine BN ?_|refine BO ?_)|refine BP ?_)|(refine BK ?_;first|refine BS rfl rfl ?_|refine BT rfl rfl ?_|refine BU rfl ?_)|(refine BL ?_;first|refine BQ ?_)|(refine BR ?_;try simp only [setS]))|refine AA ?_|refine AC ?_|refine AD ?_|refine AE ?_|refine AF rfl rfl ?_|refine AG rfl rfl ?_|refine AH ?_|refine AI ?_|refine AJ ?_|refine AK ?_|refine AL ?_|refine AM ?_|refine AN ?_|refine AO ?_|refine AP ?_|refine AQ rfl ?_|refine AR ?_|refine AS ?_|refine AT rfl ?_|refine AU rfl ?_
      rw [show ((i : Int) + 1) = ((i + 1 : Nat) : Int) by omega]
      refine round_norm (n - 1) (by omega) ⟨i + 1, v', _, _, _, cs ++ [sv], ls ++ [l], by omega, by omega, by omega, K7, ((so.up k1).up kq).app (sl.up kq) (fun k hk q => ?_) (by simp only [push_n]; omega) a1 a2 a3, by rw [List.length_append]; simp; omega, fun l' hl' => ?_, rfl⟩
      · have g1 := hbl k hk
        have g2 := so.o.lt k q
        omega
      · rcases List.mem_append.1 hl' with hl' | hl'
        · exact hsm l' hl'
        · simp at hl'; subst hl'; exact ⟨_, sm⟩
    · repeat first|(refine BG ?_;first|(refine BH ?_;first|(refine BI ?_;refine BM ?_)|(refine BJ ?_;first|refine BN ?_|refine BO ?_)|refine BV ((hrv.up K).lenv (by rfl)) ?_|refine BV (v_cmp rfl rfl rfl) ?_|refine BP ?_)|(refine BK ?_;first|refine BS rfl rfl ?_|refine BT rfl rfl ?_|refine BU rfl ?_)|(refine BL ?_;first|refine BQ ?_)|(refine BR ?_;try simp only [setS]))|refine AA ?_|refine AC ?_|refine AD ?_|refine AE ?_|refine AF rfl rfl ?_|refine AG rfl rfl ?_|refine AH ?_|refine AI ?_|refine AJ ?_|refine AK ?_|refine AL ?_|refine AM ?_|refine AN ?_|refine AO ?_|refine AP ?_|refine AQ rfl ?_|refine AR ?_|refine AS ?_|refine AT rfl ?_|refine AU rfl ?_
      exact ⟨K, cs, ls, so, by omega, hsm⟩
  · repeat first|(refine BG ?_;first|(refine BH ?_;first|(refine BI ?_;refine BM ?_)|(refine BJ ?_;first|refine BN ?_|refine BO ?_)|refine BV ((hrv.up K).lenv (by rfl)) ?_|refine BP ?_)|(refine BK ?_;first|refine BS rfl rfl ?_|refine BT rfl rfl ?_|refine BU rfl ?_)|(refine BL ?_;first|refine BQ ?_)|(refine BR ?_;try simp only [setS]))|refine AA ?_|refine AC ?_|refine AD ?_|refine AE ?_|refine AF rfl rfl ?_|refine AG rfl rfl ?_|refine AH ?_|refine AI ?_|refine AJ ?_|refine AK ?_|refine AL ?_|refine AM ?_|refine AN ?_|refine AO ?_|refine AP ?_|refine AQ rfl ?_|refine AR ?_|refine AS ?_|refine AT rfl ?_|refine AU rfl ?_
    exact ⟨K, cs, ls, so, by omega, hsm⟩
end
end Am
end Go.Proofs.Ytkgplkddpigagaa
