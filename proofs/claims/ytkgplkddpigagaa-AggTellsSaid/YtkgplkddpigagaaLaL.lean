/- AggTells: the law, walked. -/
import Derived.Test.YtkgplkddpigagaaQcD
import Derived.Test.YtkgplkddpigagaaGs
set_option linter.unusedVariables false
set_option linter.unusedSimpArgs false
namespace Go.Proofs.Ytkgplkddpigagaa
namespace Am
open Go.RowKit
set_option maxRecDepth 100000
def b_sameI64 : BF := ⟨26, [0, 1, 4, 5, 10, 14, 25], (.seq (.reg [.mk none (.slot 2) (.mov (.mv (.const (.bool false))))]) (.seq (.seq (.reg [.mk none (.env 6) (.mov (.mv (.slot 0))), .mk none (.env 7) (.mov (.lenv (.env 6))), .mk none (.env 8) (.mov (.mv (.slot 1))), .mk none (.env 9) (.mov (.lenv (.env 8))), .mk none (.slot 4) (.mov (.bin .neq .no (.env 7) (.env 9)))]) (.cond (.slot 4) (.seq (.reg [.mk none (.slot 2) (.mov (.mv (.const (.bool false))))]) .ret) .skip)) (.seq (.seq (.reg [.mk none (.slot 3) (.mov (.mv (.const (.int .i64 0))))]) (.block 0 (.loop (.seq (.seq (.reg [.mk none (.env 11) (.mov (.mv (.slot 3))), .mk none (.env 12) (.mov (.mv (.slot 0))), .mk none (.env 13) (.mov (.lenv (.env 12))), .mk none (.slot 5) (.mov (.bin .lss .no (.env 11) (.env 13)))]) (.cond (.slot 5) .skip (.exit 0))) (.seq (.block 1 (.seq (.dreg [(.mk none (.env 17) (.mov (.mv (.slot 0))), []), (.mk none (.env 18) (.mov (.mv (.slot 3))), []), (.mk none (.env 19) (.mov (.iaddr 1 (.env 17) (.env 18))), []), (.mk none (.env 20) (.mov (.ld1 (.env 19))), []), (.mk none (.env 21) (.mov (.mv (.slot 1))), []), (.mk none (.env 22) (.mov (.mv (.slot 3))), []), (.mk none (.env 23) (.mov (.iaddr 1 (.env 21) (.env 22))), []), (.mk none (.env 24) (.mov (.ld1 (.env 23))), []), (.mk none (.slot 6) (.mov (.bin .neq .no (.env 20) (.env 24))), [])]) (.cond (.slot 6) (.seq (.reg [.mk none (.slot 2) (.mov (.mv (.const (.bool false))))]) .ret) .skip))) (.reg [.mk none (.env 15) (.mov (.mv (.slot 3))), .mk none (.env 16) (.mov (.bin .add .no (.env 15) (.const (.int .i64 1)))), .mk none (.slot 3) (.mov (.mv (.env 16)))])))))) (.seq (.reg [.mk none (.slot 2) (.mov (.mv (.const (.bool true))))]) .ret)))), [.slot (.slot 2)]⟩
def b_w23same : BF := ⟨36, [0, 1, 4, 5, 6, 7, 8], (.seq (.reg [.mk none (.slot 2) (.mov (.mv (.const (.bool false))))]) (.seq (.reg [.mk none (.env 10) (.mov (.mv (.slot 0))), .mk none (.env 11) (.mov (.mv (.slot 1))), .mk none (.env 12) (.call 12 [(.env 10), (.env 11)]), .mk none (.env 9) (.mov (.mv (.env 12))), .mk none (.env 13) (.mov (.ext 0 (.env 9))), .mk none (.env 14) (.mov (.ext 1 (.env 9))), .mk none (.slot 3) (.mov (.mv (.env 13))), .mk none (.slot 4) (.mov (.mv (.env 14)))]) (.seq (.reg [.mk none (.env 16) (.mov (.mv (.slot 0))), .mk none (.env 17) (.mov (.mv (.slot 1))), .mk none (.env 18) (.call 18 [(.env 16), (.env 17)]), .mk none (.env 15) (.mov (.mv (.env 18))), .mk none (.env 19) (.mov (.ext 0 (.env 15))), .mk none (.env 20) (.mov (.ext 1 (.env 15))), .mk none (.slot 5) (.mov (.mv (.env 19))), .mk none (.slot 6) (.mov (.mv (.env 20)))]) (.seq (.reg [.mk none (.env 21) (.mov (.mv (.slot 4))), .mk none (.env 22) (.mov (.mv (.slot 6))), .mk none (.env 23) (.mov (.bin .eql .no (.env 21) (.env 22))), .mk none (.env 24) (.mov (.mv (.env 23))), .mk (some ((.env 24), true)) (.env 25) (.mov (.mv (.slot 3))), .mk (some ((.env 24), true)) (.env 26) (.mov (.mv (.slot 5))), .mk (some ((.env 24), true)) (.env 27) (.call 13 [(.env 25), (.env 26)]), .mk none (.env 28) (.mov (.pick (.env 24) (.env 27) (.const (.bool false)))), .mk none (.env 29) (.mov (.mv (.env 28))), .mk (some ((.env 29), true)) (.env 30) (.mov (.mv (.slot 1))), .mk (some ((.env 29), true)) (.env 31) (.call 15 [(.env 30)]), .mk (some ((.env 29), true)) (.env 32) (.mov (.mv (.slot 1))), .mk (some ((.env 29), true)) (.env 33) (.call 20 [(.env 32)]), .mk (some ((.env 29), true)) (.env 34) (.call 19 [(.env 31), (.env 33)]), .mk none (.env 35) (.mov (.pick (.env 29) (.env 34) (.const (.bool false)))), .mk none (.slot 2) (.mov (.mv (.env 35)))]) .ret)))), [.slot (.slot 2)]⟩
def b_AggTells : BF := ⟨44, [0, 1, 2, 3, 8, 9, 10, 16], (.seq (.reg [.mk none (.slot 4) (.mov (.mv (.const (.bool false))))]) (.seq (.reg [.mk none (.env 11) (.mov (.mv (.slot 1))), .mk none (.env 12) (.mov (.mv (.slot 2))), .mk none (.env 13) (.call 7 [(.env 11), (.env 12), (.const (.int .i64 4))]), .mk none (.slot 5) (.mov (.mv (.env 13)))]) (.seq (.seq (.reg [.mk none (.env 14) (.mov (.mv (.slot 3))), .mk none (.env 15) (.mov (.lenv (.env 14))), .mk none (.slot 7) (.mov (.bin .gtr .no (.env 15) (.const (.int .i64 5))))]) (.cond (.slot 7) (.reg [.mk none (.env 17) (.mov (.mv (.slot 3))), .mk none (.env 18) (.mov (.sl 3 (.env 17) none (some (.const (.int .i64 5))) none)), .mk none (.slot 3) (.mov (.mv (.env 18)))]) .skip)) (.seq (.reg [.mk none (.env 19) (.mov (.mv (.slot 0))), .mk none (.env 20) (.call 8 [(.env 19), (.const (.int .i64 0)), (.const (.int .i64 1048576))]), .mk none (.env 21) (.mov (.bin .rem .no (.env 20) (.const (.int .i64 7)))), .mk none (.env 22) (.mov (.bin .add .no (.const (.int .i64 1)) (.env 21))), .mk none (.slot 6) (.mov (.mv (.env 22)))]) (.seq (.reg [.mk none (.env 23) (.mov (.mv (.slot 0))), .mk none (.env 24) (.mov (.mv (.slot 5))), .mk none (.env 25) (.call 9 [(.env 23), (.env 24)]), .mk none (.env 26) (.mov (.mv (.env 25))), .mk (some ((.env 26), true)) (.env 27) (.mov (.mv (.slot 6))), .mk (some ((.env 26), true)) (.env 28) (.mov (.mv (.slot 5))), .mk (some ((.env 26), true)) (.env 29) (.call 9 [(.env 27), (.env 28)]), .mk none (.env 30) (.mov (.pick (.env 26) (.env 29) (.const (.bool false)))), .mk none (.env 31) (.mov (.mv (.env 30))), .mk (some ((.env 31), true)) (.env 32) (.mov (.mv (.slot 6))), .mk (some ((.env 31), true)) (.env 33) (.eff (.bslice 1 0 [.snil] [])), .mk (some ((.env 31), true)) (.env 34) (.mov (.mv (.slot 5))), .mk (some ((.env 31), true)) (.env 35) (.eff (.append 1 24 (.env 33) (.env 34))), .mk (some ((.env 31), true)) (.env 36) (.mov (.mv (.slot 3))), .mk (some ((.env 31), true)) (.env 37) (.eff (.bslice 1 1 [.snil] [(0, 1, (.env 36))])), .mk (some ((.env 31), true)) (.env 38) (.eff (.append 1 24 (.env 35) (.env 37))), .mk (some ((.env 31), true)) (.env 39) (.call 9 [(.env 32), (.env 38)]), .mk none (.env 40) (.mov (.pick (.env 31) (.env 39) (.const (.bool false)))), .mk none (.env 41) (.mov (.mv (.env 40))), .mk (some ((.env 41), true)) (.env 42) (.call 10 []), .mk none (.env 43) (.mov (.pick (.env 41) (.env 42) (.const (.bool false)))), .mk none (.slot 4) (.mov (.mv (.env 43)))]) .ret))))), [.slot (.slot 4)]⟩
theorem sc_take {l : List SM} {k : Nat} : ((l.flatMap sc).drop (0 * 3)).take ((k - 0) * 3) = (l.take k).flatMap sc := by
  rw [Nat.zero_mul, List.drop_zero, Nat.sub_zero]
  induction l generalizing k with
  | nil => simp
  | cons s l ih =>
    cases k with
    | zero => simp
    | succ k =>
      rw [List.flatMap_cons, List.take_succ_cons, List.flatMap_cons, ← ih]
      have e : (k + 1) * 3 = (sc s).length + k * 3 := by simp [sc]; omega
      rw [e, List.take_length_add_append]
section
variable {X : Type} {E : Nat → Option (Ent X)}
set_option maxHeartbeats 1000000 in
theorem samei_ok (hE : ∀ f e, E f = some e → e.plain) (hf : E 19 = some (.bc b_sameI64)) {h : Hp X} {v w : AV} {l : List Int} (a : RS h 1 v l.length (l.map iv)) (b : RS h 1 w l.length (l.map iv)) (hl : l.length ≤ 1000000) :
    WF (lim E) 19 [v, w] h fun x h' => h' = h ∧ x = .bool true := by
  refine wf_bc hE hf rfl ?_
  simp only [b_sameI64, List.map, getS]
  repeat first|(refine BG ?_;first|(refine BH ?_;first|(refine BI ?_;refine BM ?_)|(refine BJ ?_;first|refine BN ?_|refine BO ?_)|refine BV (a.lenv (by rfl)) ?_|refine BV (b.lenv (by rfl)) ?_|refine BP ?_)|(refine BK ?_;first|refine BS rfl rfl ?_|refine BT rfl rfl ?_|refine BU rfl ?_)|(refine BL ?_;first|refine BQ ?_)|(refine BR ?_;try simp only [setS]))|refine AA ?_|refine AC ?_|refine AD ?_|refine AE ?_|refine AF rfl rfl ?_|refine AG rfl rfl ?_|refine AH ?_|refine AI ?_|refine AJ ?_|refine AK ?_|refine AL ?_|refine AM ?_|refine AN ?_|refine AO ?_|refine AP ?_|refine AQ rfl ?_|refine AR ?_|refine AS ?_|refine AT rfl ?_|refine AU rfl ?_
  refine wb_loop (fun n t hh => ∃ (i : Nat) (s5 s6 : AV), i ≤ l.length ∧ n = l.length - i ∧ hh = h ∧ t = [v, w, .bool false, .int .i64 i, .bool false, s5, s6]) ?_ l.length _ _ ⟨0, _, _, by omega, by omega, rfl, rfl⟩
  rintro n t hh ⟨i, s5, s6, hi, hm, eh, rfl⟩
  have eh := eh.symm
  subst eh
  by_cases hlt : i < l.length
  · obtain ⟨p, hp⟩ : ∃ s, l[i]? = some s := ⟨_, List.getElem?_eq_getElem hlt⟩
    obtain ⟨g, o, c0, c1⟩ := a.at2 hlt
    obtain ⟨g', o', d0, d1⟩ := b.at2 hlt
    have lc : ∀ {e : En} {t : List AV} {x : Od}, x.ev e t = .ptr g o → (Mv.ld1 x).ev e t h = some (.int .i64 p) := fun hx => by rw [c1 (Keep.refl NoB h) (fun _ _ q => q) hx, iv_at hp]
    have ld : ∀ {e : En} {t : List AV} {x : Od}, x.ev e t = .ptr g' o' → (Mv.ld1 x).ev e t h = some (.int .i64 p) := fun hx => by rw [d1 (Keep.refl NoB h) (fun _ _ q => q) hx, iv_at hp]
    repeat first|(refine BG ?_;first|(refine BH ?_;first|(refine BI ?_;refine BM ?_)|(refine BJ ?_;first|refine BN ?_|refine BO ?_)|refine BV (a.lenv (by rfl)) ?_|refine BP ?_)|(refine BK ?_;first|refine BS rfl rfl ?_|refine BT rfl rfl ?_|refine BU rfl ?_)|(refine BL ?_;first|refine BQ ?_)|(refine BR ?_;try simp only [setS]))|refine AA ?_|refine AC ?_|refine AD ?_|refine AF rfl rfl ?_|refine AG rfl rfl ?_|refine AH ?_|refine AI ?_|refine AJ ?_|refine AK ?_|refine AL ?_|refine AM ?_|refine AN ?_|refine AO ?_|refine AP ?_|refine AQ rfl ?_|refine AR ?_|refine AS ?_|refine AT rfl ?_|refine AU rfl ?_
    repeat first|(refine BG ?_;first|(refine BH ?_;first|(refine BI ?_;refine BM ?_)|(refine BJ ?_;first|refine BN ?_|refine BO ?_)|refine BV (c0 rfl rfl) ?_|refine BV (d0 rfl rfl) ?_|refine BV (lc rfl) ?_|refine BV (ld rfl) ?_|refine BV (v_neq_f rfl rfl (fun q => q rfl)) ?_|refine BP ?_)|(refine BK ?_;first|refine BS rfl rfl ?_|refine BT rfl rfl ?_|refine BU rfl ?_)|(refine BL ?_;first|refine BQ ?_)|(refine BR ?_;try simp only [setS]))|(refine BX ?_;first|refine BY rfl ?_|(refine BZ ?_;refine CA ?_)|refine CB (c0 rfl rfl) ?_|refine CB (d0 rfl rfl) ?_|refine CB (lc rfl) ?_|refine CB (ld rfl) ?_|refine CB (v_neq_f rfl rfl (fun q => q rfl)) ?_|refine CC ?_|(refine CD ?_;try simp only [setS]))|refine AA ?_|refine AC ?_|refine AD ?_|refine AE ?_|refine AF rfl rfl ?_|refine AG rfl rfl ?_|refine AH ?_|refine AI ?_|refine AJ ?_|refine AK ?_|refine AL ?_|refine AM ?_|refine AN ?_|refine AO ?_|refine AP ?_|refine AQ rfl ?_|refine AR ?_|refine AS ?_|refine AT rfl ?_|refine AU rfl ?_
    rw [show ((i : Int) + 1) = ((i + 1 : Nat) : Int) by omega]
    exact round_norm (n - 1) (by omega) ⟨i + 1, _, _, by omega, by omega, rfl, rfl⟩
  · repeat first|(refine BG ?_;first|(refine BH ?_;first|(refine BI ?_;refine BM ?_)|(refine BJ ?_;first|refine BN ?_|refine BO ?_)|refine BV (a.lenv (by rfl)) ?_|refine BP ?_)|(refine BK ?_;first|refine BS rfl rfl ?_|refine BT rfl rfl ?_|refine BU rfl ?_)|(refine BL ?_;first|refine BQ ?_)|(refine BR ?_;try simp only [setS]))|refine AA ?_|refine AC ?_|refine AD ?_|refine AE ?_|refine AF rfl rfl ?_|refine AG rfl rfl ?_|refine AH ?_|refine AI ?_|refine AJ ?_|refine AK ?_|refine AL ?_|refine AM ?_|refine AN ?_|refine AO ?_|refine AP ?_|refine AQ rfl ?_|refine AR ?_|refine AS ?_|refine AT rfl ?_|refine AU rfl ?_
    exact ⟨rfl, rfl⟩
structure QfT (E : Nat → Option (Ent X)) : Prop where
  w : QaW E
  e : QeT E
  samei : E 19 = some (.bc b_sameI64)
  same : E 9 = some (.bc b_w23same)
  made : E 7 = some (.bc b_w23made)
set_option maxHeartbeats 2000000 in
theorem w23same_ok (hE : ∀ f e, E f = some e → e.plain) (T : QfT E) {h : Hp X} {v : AV} {ls : List (List SM)} (a : Sers h v ls) (hl2 : ∀ l ∈ ls, l.length ≤ 1000) (how : Int) :
    WF (lim E) 9 [.int .i64 how, v] h fun x h' => Keep NoB h h' ∧ x = .bool true := by
  refine wf_bc hE T.same rfl ?_
  simp only [b_w23same, List.map, getS]
  repeat first|(refine BG ?_;first|(refine BH ?_;first|(refine BI ?_;refine BM ?_)|(refine BJ ?_;first|refine BN ?_|refine BO ?_)|refine BP ?_)|(refine BK ?_;first|refine BS rfl rfl ?_|refine BT rfl rfl ?_|refine BU rfl ?_)|(refine BL ?_;first|refine BQ ?_)|(refine BR ?_;try simp only [setS]))|refine AA ?_|refine AC ?_|refine AD ?_|refine AE ?_|refine AF rfl rfl ?_|refine AG rfl rfl ?_|refine AH ?_|refine AI ?_|refine AJ ?_|refine AK ?_|refine AL ?_|refine AM ?_|refine AN ?_|refine AO ?_|refine AP ?_|refine AQ rfl ?_|refine AR ?_|refine AS ?_|refine AT rfl ?_|refine AU rfl ?_
  refine wr_call_e rfl ((ado_ok hE T.w.toQaN a hl2 how).mono fun x h1 ⟨k1, w1, e1, hw1, _⟩ => ?_)
  subst e1
  repeat first|(refine BG ?_;first|(refine BH ?_;first|(refine BI ?_;refine BM ?_)|(refine BJ ?_;first|refine BN ?_|refine BO ?_)|refine BP ?_)|(refine BK ?_;first|refine BS rfl rfl ?_|refine BT rfl rfl ?_|refine BU rfl ?_)|(refine BL ?_;first|refine BQ ?_)|(refine BR ?_;try simp only [setS]))|refine AA ?_|refine AC ?_|refine AD ?_|refine AE ?_|refine AF rfl rfl ?_|refine AG rfl rfl ?_|refine AH ?_|refine AI ?_|refine AJ ?_|refine AK ?_|refine AL ?_|refine AM ?_|refine AN ?_|refine AO ?_|refine AP ?_|refine AQ rfl ?_|refine AR ?_|refine AS ?_|refine AT rfl ?_|refine AU rfl ?_
  refine wr_call_e rfl ((r21agg_ok hE T.e (a.up k1) hl2 how).mono fun x h2 ⟨k2, w2, e2, hw2⟩ => ?_)
  subst e2
  generalize aggF how ls = r at *
  obtain ⟨m, er⟩ := r
  have K2 := k1.and k2
  repeat first|(refine BG ?_;first|(refine BH ?_;first|(refine BI ?_;refine BM ?_)|(refine BJ ?_;first|refine BN ?_|refine BO ?_)|refine BV (v_eqlt rfl rfl) ?_|refine BP ?_)|(refine BK ?_;first|refine BS rfl rfl ?_|refine BT rfl rfl ?_|refine BU rfl ?_)|(refine BL ?_;first|refine BQ ?_)|(refine BR ?_;try simp only [setS]))|refine AA ?_|refine AC ?_|refine AD ?_|refine AE ?_|refine AF rfl rfl ?_|refine AG rfl rfl ?_|refine AH ?_|refine AI ?_|refine AJ ?_|refine AK ?_|refine AL ?_|refine AM ?_|refine AN ?_|refine AO ?_|refine AP ?_|refine AQ rfl ?_|refine AR ?_|refine AS ?_|refine AT rfl ?_|refine AU rfl ?_
  refine wr_call_e rfl ((same21_ok hE T.w.q.same (hw1.up k2) hw2).mono fun x h3 ⟨e3, e4⟩ => ?_)
  have e3 := e3.symm
  subst e3 e4
  rw [decide_eq_true (rfl : m = m)]
  repeat first|(refine BG ?_;first|(refine BH ?_;first|(refine BI ?_;refine BM ?_)|(refine BJ ?_;first|refine BN ?_|refine BO ?_)|refine BP ?_)|(refine BK ?_;first|refine BS rfl rfl ?_|refine BT rfl rfl ?_|refine BU rfl ?_)|(refine BL ?_;first|refine BQ ?_)|(refine BR ?_;try simp only [setS]))|refine AA ?_|refine AC ?_|refine AD ?_|refine AE ?_|refine AF rfl rfl ?_|refine AG rfl rfl ?_|refine AH ?_|refine AI ?_|refine AJ ?_|refine AK ?_|refine AL ?_|refine AM ?_|refine AN ?_|refine AO ?_|refine AP ?_|refine AQ rfl ?_|refine AR ?_|refine AS ?_|refine AT rfl ?_|refine AU rfl ?_
  refine wr_call_e rfl ((times_ok hE T.w.toQaM (a.up K2) hl2).mono fun tv h4 ⟨k4, rT⟩ => ?_)
  have K4 := K2.and k4
  repeat first|(refine BG ?_;first|(refine BH ?_;first|(refine BI ?_;refine BM ?_)|(refine BJ ?_;first|refine BN ?_|refine BO ?_)|refine BP ?_)|(refine BK ?_;first|refine BS rfl rfl ?_|refine BT rfl rfl ?_|refine BU rfl ?_)|(refine BL ?_;first|refine BQ ?_)|(refine BR ?_;try simp only [setS]))|refine AA ?_|refine AC ?_|refine AD ?_|refine AE ?_|refine AF rfl rfl ?_|refine AG rfl rfl ?_|refine AH ?_|refine AI ?_|refine AJ ?_|refine AK ?_|refine AL ?_|refine AM ?_|refine AN ?_|refine AO ?_|refine AP ?_|refine AQ rfl ?_|refine AR ?_|refine AS ?_|refine AT rfl ?_|refine AU rfl ?_
  refine wr_call_e rfl ((r21times_ok hE T.e.times (a.up K4) hl2).mono fun uv h5 ⟨k5, rU⟩ => ?_)
  have htl := timesF_len a.len hl2
  repeat first|(refine BG ?_;first|(refine BH ?_;first|(refine BI ?_;refine BM ?_)|(refine BJ ?_;first|refine BN ?_|refine BO ?_)|refine BP ?_)|(refine BK ?_;first|refine BS rfl rfl ?_|refine BT rfl rfl ?_|refine BU rfl ?_)|(refine BL ?_;first|refine BQ ?_)|(refine BR ?_;try simp only [setS]))|refine AA ?_|refine AC ?_|refine AD ?_|refine AE ?_|refine AF rfl rfl ?_|refine AG rfl rfl ?_|refine AH ?_|refine AI ?_|refine AJ ?_|refine AK ?_|refine AL ?_|refine AM ?_|refine AN ?_|refine AO ?_|refine AP ?_|refine AQ rfl ?_|refine AR ?_|refine AS ?_|refine AT rfl ?_|refine AU rfl ?_
  refine wr_call_e rfl ((samei_ok hE T.samei (rT.up k5) rU htl).mono fun x h6 ⟨e6, e7⟩ => ?_)
  have e6 := e6.symm
  subst e6 e7
  repeat first|(refine BG ?_;first|(refine BH ?_;first|(refine BI ?_;refine BM ?_)|(refine BJ ?_;first|refine BN ?_|refine BO ?_)|refine BP ?_)|(refine BK ?_;first|refine BS rfl rfl ?_|refine BT rfl rfl ?_|refine BU rfl ?_)|(refine BL ?_;first|refine BQ ?_)|(refine BR ?_;try simp only [setS]))|refine AA ?_|refine AC ?_|refine AD ?_|refine AE ?_|refine AF rfl rfl ?_|refine AG rfl rfl ?_|refine AH ?_|refine AI ?_|refine AJ ?_|refine AK ?_|refine AL ?_|refine AM ?_|refine AN ?_|refine AO ?_|refine AP ?_|refine AQ rfl ?_|refine AR ?_|refine AS ?_|refine AT rfl ?_|refine AU rfl ?_
  exact ⟨K4.and k5, rfl⟩
set_option maxHeartbeats 8000000 in
theorem atells_ok (hE : ∀ f e, E f = some e → e.plain) (T : QfT E) (hlaw : E 3 = some (.bc b_AggTells)) {h : Hp X} {v w r : AV} {n0 : Int} {st vs : List (List Int)} {raw : List SM} (hn : I64 n0) (a : IntssAt h v st) (b : IntssAt h w vs) (c : SmpsAt h r raw) :
    WF (lim E) 3 [.int .i64 n0, v, w, r] h fun x _ => x = .bool true := by
  refine wf_bc hE hlaw rfl ?_
  simp only [b_AggTells, List.map, getS]
  have hmx : (maxLen : Nat) = 9223372036854775807 := rfl
  have hcl := c.len
  repeat first|(refine BG ?_;first|(refine BH ?_;first|(refine BI ?_;refine BM ?_)|(refine BJ ?_;first|refine BN ?_|refine BO ?_)|refine BP ?_)|(refine BK ?_;first|refine BS rfl rfl ?_|refine BT rfl rfl ?_|refine BU rfl ?_)|(refine BL ?_;first|refine BQ ?_)|(refine BR ?_;try simp only [setS]))|refine AA ?_|refine AC ?_|refine AD ?_|refine AE ?_|refine AF rfl rfl ?_|refine AG rfl rfl ?_|refine AH ?_|refine AI ?_|refine AJ ?_|refine AK ?_|refine AL ?_|refine AM ?_|refine AN ?_|refine AO ?_|refine AP ?_|refine AQ rfl ?_|refine AR ?_|refine AS ?_|refine AT rfl ?_|refine AU rfl ?_
  refine wr_call_e rfl ((made_ok hE T.w.q T.made a b (most := 4) (by omega)).mono fun sv h1 ⟨k1, cs, ls, so, hl4, hs⟩ => ?_)
  have hll8 : ∀ l ∈ ls, l.length ≤ 1000 := fun l hl => by obtain ⟨s, sm⟩ := hs l hl; have := sm.len; omega
  have c1 := c.up k1
  repeat first|(refine BG ?_;first|(refine BH ?_;first|(refine BI ?_;refine BM ?_)|(refine BJ ?_;first|refine BN ?_|refine BO ?_)|refine BV (c1.rs.lenv (by rfl)) ?_|refine BP ?_)|(refine BK ?_;first|refine BS rfl rfl ?_|refine BT rfl rfl ?_|refine BU rfl ?_)|(refine BL ?_;first|refine BQ ?_)|(refine BR ?_;try simp only [setS]))|refine AA ?_|refine AC ?_|refine AD ?_|refine AE ?_|refine AF rfl rfl ?_|refine AG rfl rfl ?_|refine AI ?_|refine AJ ?_|refine AK ?_|refine AL ?_|refine AM ?_|refine AN ?_|refine AO ?_|refine AP ?_|refine AQ rfl ?_|refine AR ?_|refine AS ?_|refine AT rfl ?_|refine AU rfl ?_
  refine wb_mid (fun t' h' => h' = h1 ∧ ∃ (r2 : AV) (l2 : List SM), Ser h1 r2 l2 ∧ l2.length ≤ 5 ∧ (∀ k, blk r2 k → k < h.n) ∧ t' = [.int .i64 n0, v, w, r2, .bool false, sv, .bot, .bool (decide (5 < (raw.length : Int)))]) ?_ ?_
  · by_cases h5 : 5 < (raw.length : Int)
    · rw [decide_eq_true h5]
      obtain ⟨r2, q1, q2, _, q3⟩ := c1.rs.sl (lo := 0) (hi := 5) (by omega) (by omega)
      have el : (raw.take 5).length = 5 := by rw [List.length_take]; omega
      have ec : ((raw.flatMap sc).drop (0 * 3)).take ((5 - 0) * 3) = (raw.take 5).flatMap sc := sc_take
      rw [ec] at q1
      repeat first|(refine BG ?_;first|(refine BH ?_;first|(refine BI ?_;refine BM ?_)|(refine BJ ?_;first|refine BN ?_|refine BO ?_)|refine BV (q3 rfl (.inl ⟨rfl, rfl⟩) (.inr ⟨_, _, rfl, rfl⟩)) ?_|refine BP ?_)|(refine BK ?_;first|refine BS rfl rfl ?_|refine BT rfl rfl ?_|refine BU rfl ?_)|(refine BL ?_;first|refine BQ ?_)|(refine BR ?_;try simp only [setS]))|refine AA ?_|refine AC ?_|refine AD ?_|refine AE ?_|refine AF rfl rfl ?_|refine AG rfl rfl ?_|refine AH ?_|refine AI ?_|refine AJ ?_|refine AK ?_|refine AL ?_|refine AM ?_|refine AN ?_|refine AO ?_|refine AP ?_|refine AQ rfl ?_|refine AR ?_|refine AS ?_|refine AT rfl ?_|refine AU rfl ?_
      exact mid_norm ⟨rfl, r2, raw.take 5, ⟨by rw [el]; exact q1, by omega, fun s hs => c.row s (List.mem_of_mem_take hs)⟩, by omega, fun k q => c.rs.lt k (q2 k q), rfl⟩
    · rw [decide_eq_false h5]
      repeat first|(refine BG ?_;first|(refine BH ?_;first|(refine BI ?_;refine BM ?_)|(refine BJ ?_;first|refine BN ?_|refine BO ?_)|refine BP ?_)|(refine BK ?_;first|refine BS rfl rfl ?_|refine BT rfl rfl ?_|refine BU rfl ?_)|(refine BL ?_;first|refine BQ ?_)|(refine BR ?_;try simp only [setS]))|refine AA ?_|refine AC ?_|refine AD ?_|refine AE ?_|refine AF rfl rfl ?_|refine AG rfl rfl ?_|refine AH ?_|refine AI ?_|refine AJ ?_|refine AK ?_|refine AL ?_|refine AM ?_|refine AN ?_|refine AO ?_|refine AP ?_|refine AQ rfl ?_|refine AR ?_|refine AS ?_|refine AT rfl ?_|refine AU rfl ?_
      exact mid_norm ⟨rfl, r, raw, ⟨c1.rs, by omega, c.row⟩, by omega, c.rs.lt, rfl⟩
  rintro t' h' ⟨eh, r2, l2, s2, hl2, hr2, rfl⟩
  have eh := eh.symm
  subst eh
  repeat first|(refine BG ?_;first|(refine BH ?_;first|(refine BI ?_;refine BM ?_)|(refine BJ ?_;first|refine BN ?_|refine BO ?_)|refine BP ?_)|(refine BK ?_;first|refine BS rfl rfl ?_|refine BT rfl rfl ?_|refine BU rfl ?_)|(refine BL ?_;first|refine BQ ?_)|(refine BR ?_;try simp only [setS]))|refine AA ?_|refine AC ?_|refine AD ?_|refine AE ?_|refine AF rfl rfl ?_|refine AG rfl rfl ?_|refine AH ?_|refine AI ?_|refine AJ ?_|refine AK ?_|refine AL ?_|refine AM ?_|refine AN ?_|refine AO ?_|refine AP ?_|refine AQ rfl ?_|refine AR ?_|refine AS ?_|refine AT rfl ?_|refine AU rfl ?_
  refine wr_call_e rfl ((within_ok hE T.w.q.within hn (lo := 0) (hi := 1048576) (by omega) (by omega) (by omega)).mono fun z h2 ⟨e1, e2⟩ => ?_)
  subst e2
  have e1 := e1.symm
  subst e1
  generalize withinF n0 0 1048576 = u at *
  have tb := tmod_bounds (n := u) (m := 7) (by omega)
  repeat first|(refine BG ?_;first|(refine BH ?_;first|(refine BI ?_;refine BM ?_)|(refine BJ ?_;first|refine BN ?_|refine BO ?_)|refine BV (v_rem rfl rfl (by omega)) ?_|refine BV (v_add rfl rfl (by omega)) ?_|refine BP ?_)|(refine BK ?_;first|refine BS rfl rfl ?_|refine BT rfl rfl ?_|refine BU rfl ?_)|(refine BL ?_;first|refine BQ ?_)|(refine BR ?_;try simp only [setS]))|refine AA ?_|refine AC ?_|refine AD ?_|refine AE ?_|refine AF rfl rfl ?_|refine AG rfl rfl ?_|refine AH ?_|refine AI ?_|refine AJ ?_|refine AK ?_|refine AL ?_|refine AM ?_|refine AN ?_|refine AO ?_|refine AP ?_|refine AQ rfl ?_|refine AR ?_|refine AS ?_|refine AT rfl ?_|refine AU rfl ?_
  generalize 1 + u.tmod 7 = how at *
  refine wr_call_e rfl ((w23same_ok hE T (so.sers (by omega)) hll8 n0).mono fun x h3 ⟨k3, e3⟩ => ?_)
  subst e3
  repeat first|(refine BG ?_;first|(refine BH ?_;first|(refine BI ?_;refine BM ?_)|(refine BJ ?_;first|refine BN ?_|refine BO ?_)|refine BP ?_)|(refine BK ?_;first|refine BS rfl rfl ?_|refine BT rfl rfl ?_|refine BU rfl ?_)|(refine BL ?_;first|refine BQ ?_)|(refine BR ?_;try simp only [setS]))|refine AA ?_|refine AC ?_|refine AD ?_|refine AE ?_|refine AF rfl rfl ?_|refine AG rfl rfl ?_|refine AH ?_|refine AI ?_|refine AJ ?_|refine AK ?_|refine AL ?_|refine AM ?_|refine AN ?_|refine AO ?_|refine AP ?_|refine AQ rfl ?_|refine AR ?_|refine AS ?_|refine AT rfl ?_|refine AU rfl ?_
  refine wr_call_e rfl ((w23same_ok hE T ((so.up k3).sers (by omega)) hll8 how).mono fun x h4 ⟨k4, e4⟩ => ?_)
  subst e4
  have K4 := k3.and k4
  have n1 := k1.n
  have n4 := K4.n
  repeat first|(refine BG ?_;first|(refine BH ?_;first|(refine BI ?_;refine BM ?_)|(refine BJ ?_;first|refine BN ?_|refine BO ?_)|refine BP ?_)|(refine BK ?_;first|refine BS rfl rfl ?_|refine BT rfl rfl ?_|refine BU rfl ?_)|(refine BL ?_;first|refine BW ef_bs0 ?_|refine BQ ?_)|(refine BR ?_;try simp only [setS]))|refine AA ?_|refine AC ?_|refine AD ?_|refine AE ?_|refine AF rfl rfl ?_|refine AG rfl rfl ?_|refine AH ?_|refine AI ?_|refine AJ ?_|refine AK ?_|refine AL ?_|refine AM ?_|refine AN ?_|refine AO ?_|refine AP ?_|refine AQ rfl ?_|refine AR ?_|refine AS ?_|refine AT rfl ?_|refine AU rfl ?_
  have kp : Keep NoB h4 (h4.push (.rw [])) := Keep.push _ _ _
  have oz : OS (h4.push (.rw [])) 1 (.slice 1 h4.n 0 0 (some 0)) 0 [] := ⟨rfl, rfl, Nat.zero_lt_one, Nat.lt_succ_self _, [], Hp.push_self _ _, by simp, by simp, by simp⟩
  have K5 := K4.and kp
  have so5 := so.up K5
  have hbn : ∀ k, blk (AV.slice 1 h4.n 0 0 (some 0)) k → k = h4.n := fun k q => q
  refine wr_app_e rfl rfl oz (by decide) so5.o.rs (by omega) (by omega) fun v' h6 a1 a2 a3 => ?_
  rw [Nat.zero_add, List.nil_append] at a1
  have k6 : Keep NoB h4 h6 := kp.own a2 (fun k q => by have := hbn k q; omega)
  have K6 := K4.and k6
  have l6 := so.l.up K6
  have s6 := s2.up K6
  repeat first|(refine BG ?_;first|(refine BH ?_;first|(refine BI ?_;refine BM ?_)|(refine BJ ?_;first|refine BN ?_|refine BO ?_)|refine BP ?_)|(refine BK ?_;first|refine BS rfl rfl ?_|refine BT rfl rfl ?_|refine BU rfl ?_)|(refine BL ?_;first|refine BW (ef_bs1' rfl s6.one.1 s6.one.2) ?_|refine BQ ?_)|(refine BR ?_;try simp only [setS]))|refine AA ?_|refine AC ?_|refine AD ?_|refine AE ?_|refine AF rfl rfl ?_|refine AG rfl rfl ?_|refine AH ?_|refine AI ?_|refine AJ ?_|refine AK ?_|refine AL ?_|refine AM ?_|refine AN ?_|refine AO ?_|refine AP ?_|refine AQ rfl ?_|refine AR ?_|refine AS ?_|refine AT rfl ?_|refine AU rfl ?_
  have kq : Keep NoB h6 (h6.push (.rw [r2])) := Keep.push _ _ _
  have lo6 : ∀ k, blk v' k → h4.n ≤ k := fun k q => by
    rcases a3 k q with q | q
    · have := hbn k q; omega
    · simp only [push_n] at q; omega
  refine wr_app_e rfl rfl (a1.up kq) (by decide) (rs_push (n := 1) (z := 1) rfl) (by omega) (by omega) fun v8 h8 b1 b2 b3 => ?_
  have K8 : Keep NoB h4 h8 := (k6.and kq).own b2 lo6
  have l8 := (so.l.up K4).up K8
  have s8 := (s2.up K4).up K8
  repeat first|(refine BG ?_;first|(refine BH ?_;first|(refine BI ?_;refine BM ?_)|(refine BJ ?_;first|refine BN ?_|refine BO ?_)|refine BP ?_)|(refine BK ?_;first|refine BS rfl rfl ?_|refine BT rfl rfl ?_|refine BU rfl ?_)|(refine BL ?_;first|refine BQ ?_)|(refine BR ?_;try simp only [setS]))|refine AA ?_|refine AC ?_|refine AD ?_|refine AE ?_|refine AF rfl rfl ?_|refine AG rfl rfl ?_|refine AH ?_|refine AI ?_|refine AJ ?_|refine AK ?_|refine AL ?_|refine AM ?_|refine AN ?_|refine AO ?_|refine AP ?_|refine AQ rfl ?_|refine AR ?_|refine AS ?_|refine AT rfl ?_|refine AU rfl ?_
  refine wr_call_e rfl ((w23same_ok hE T ((l8.snoc s8).sers (v := v8) (by rw [List.length_append]; exact b1.rs) (by rw [List.length_append]; simp; omega)) (by
    intro l hl
    rcases List.mem_append.1 hl with hl | hl
    · exact hll8 l hl
    · simp at hl; subst hl; omega) how).mono fun x h9 ⟨k9, e9⟩ => ?_)
  subst e9
  repeat first|(refine BG ?_;first|(refine BH ?_;first|(refine BI ?_;refine BM ?_)|(refine BJ ?_;first|refine BN ?_|refine BO ?_)|refine BP ?_)|(refine BK ?_;first|refine BS rfl rfl ?_|refine BT rfl rfl ?_|refine BU rfl ?_)|(refine BL ?_;first|refine BQ ?_)|(refine BR ?_;try simp only [setS]))|refine AA ?_|refine AC ?_|refine AD ?_|refine AE ?_|refine AF rfl rfl ?_|refine AG rfl rfl ?_|refine AH ?_|refine AI ?_|refine AJ ?_|refine AK ?_|refine AL ?_|refine AM ?_|refine AN ?_|refine AO ?_|refine AP ?_|refine AQ rfl ?_|refine AR ?_|refine AS ?_|refine AT rfl ?_|refine AU rfl ?_
  refine wr_call_e rfl ((wf_true hE T.w.known).mono fun x h10 ⟨e10, e11⟩ => ?_)
  subst e11
  repeat first|(refine BG ?_;first|(refine BH ?_;first|(refine BI ?_;refine BM ?_)|(refine BJ ?_;first|refine BN ?_|refine BO ?_)|refine BP ?_)|(refine BK ?_;first|refine BS rfl rfl ?_|refine BT rfl rfl ?_|refine BU rfl ?_)|(refine BL ?_;first|refine BQ ?_)|(refine BR ?_;try simp only [setS]))|refine AA ?_|refine AC ?_|refine AD ?_|refine AE ?_|refine AF rfl rfl ?_|refine AG rfl rfl ?_|refine AH ?_|refine AI ?_|refine AJ ?_|refine AK ?_|refine AL ?_|refine AM ?_|refine AN ?_|refine AO ?_|refine AP ?_|refine AQ rfl ?_|refine AR ?_|refine AS ?_|refine AT rfl ?_|refine AU rfl ?_
  rfl
end
end Am
end Go.Proofs.Ytkgplkddpigagaa
