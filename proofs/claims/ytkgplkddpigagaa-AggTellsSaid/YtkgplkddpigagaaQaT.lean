/- Layer 23: series that are alike; series that a law lays. -/
import Derived.Test.YtkgplkddpigagaaQaS
set_option linter.unusedVariables false
set_option linter.unusedSimpArgs false
namespace Go.Proofs.Ytkgplkddpigagaa
namespace Am
open Go.RowKit
set_option maxRecDepth 100000
theorem sc_inj {a b : SM} (h1 : a.t = b.t) (h2 : a.q.1 = b.q.1) (h3 : a.q.2 = b.q.2) : a = b := by
  obtain ⟨t, p, q⟩ := a
  obtain ⟨t', p', q'⟩ := b
  simp only at h1 h2 h3
  subst h1 h2 h3
  rfl
instance : DecidableEq SM := fun a b => if h : a.t = b.t ∧ a.q.1 = b.q.1 ∧ a.q.2 = b.q.2 then .isTrue (sc_inj h.1 h.2.1 h.2.2) else .isFalse (fun e => h (by subst e; exact ⟨rfl, rfl, rfl⟩))
theorem v_seq3 {X : Type} {e : En} {t : List AV} {h : Hp X} {ng : Bool} {x y : Od} {a b : SM} (hx : x.ev e t = .agg (sc a)) (hy : y.ev e t = .agg (sc b)) : (Mv.seq ng [0, 0, 0] x y).ev e t h = some (.bool (decide (a = b) != ng)) := by
  simp only [Mv.ev, hx, hy, AV.onAgg, sc, eqFs, eqF, Nat.beq_refl, decide_true, Bool.and_self, cond_true]
  by_cases h1 : a = b
  · subst h1
    rw [decide_eq_true rfl]
    simp
  · rw [decide_eq_false h1]
    by_cases g1 : a.t = b.t
    · by_cases g2 : a.q.1 = b.q.1
      · by_cases g3 : a.q.2 = b.q.2
        · exact absurd (sc_inj g1 g2 g3) h1
        · rw [show (a.t == b.t) = true by simp [g1], show (a.q.1 == b.q.1) = true by simp [g2], show (a.q.2 == b.q.2) = false by simp [g3]]
      · rw [show (a.t == b.t) = true by simp [g1], show (a.q.1 == b.q.1) = false by simp [g2]]
    · rw [show (a.t == b.t) = false by simp [g1]]
theorem v_seq3t {X : Type} {e : En} {t : List AV} {h : Hp X} {x y : Od} {a b : SM} (hx : x.ev e t = .agg (sc a)) (hy : y.ev e t = .agg (sc b)) (hab : a = b) : (Mv.seq true [0, 0, 0] x y).ev e t h = some (.bool false) := by rw [v_seq3 hx hy, decide_eq_true hab]; rfl
theorem v_seq3f {X : Type} {e : En} {t : List AV} {h : Hp X} {x y : Od} {a b : SM} (hx : x.ev e t = .agg (sc a)) (hy : y.ev e t = .agg (sc b)) (hab : a ≠ b) : (Mv.seq true [0, 0, 0] x y).ev e t h = some (.bool true) := by rw [v_seq3 hx hy, decide_eq_false hab]; rfl
section
variable {X : Type} {E : Nat → Option (Ent X)}
set_option maxHeartbeats 1000000 in
theorem same21_ok (hE : ∀ f e, E f = some e → e.plain) (hf : E 13 = some (.bc b_ref21Same)) {h : Hp X} {v w : AV} {l m : List SM} (a : Ser h v l) (b : Ser h w m) :
    WF (lim E) 13 [v, w] h fun x h' => h' = h ∧ x = .bool (decide (l = m)) := by
  refine wf_bc hE hf rfl ?_
  simp only [b_ref21Same, List.map, getS]
  have hal := a.len
  have hbl := b.len
  by_cases hlen : l.length = m.length
  case' neg =>
    rw [decide_eq_false (show l ≠ m from fun e => hlen (by rw [e]))]
    repeat first|(refine BG ?_;first|(refine BH ?_;first|(refine BI ?_;refine BM ?_)|(refine BJ ?_;first|refine BN ?_|refine BO ?_)|refine BV (a.rs.lenv (by rfl)) ?_|refine BV (b.rs.lenv (by rfl)) ?_|refine BV (v_neq_t rfl rfl (by omega)) ?_|refine BP ?_)|(refine BK ?_;first|refine BS rfl rfl ?_|refine BT rfl rfl ?_|refine BU rfl ?_)|(refine BL ?_;first|refine BQ ?_)|(refine BR ?_;try simp only [setS]))|refine AA ?_|refine AC ?_|refine AD ?_|refine AE ?_|refine AF rfl rfl ?_|refine AG rfl rfl ?_|refine AH ?_|refine AI ?_|refine AJ ?_|refine AK ?_|refine AL ?_|refine AM ?_|refine AN ?_|refine AO ?_|refine AP ?_|refine AQ rfl ?_|refine AR ?_|refine AS ?_|refine AT rfl ?_|refine AU rfl ?_
    exact ⟨rfl, rfl⟩
  repeat first|(refine BG ?_;first|(refine BH ?_;first|(refine BI ?_;refine BM ?_)|(refine BJ ?_;first|refine BN ?_|refine BO ?_)|refine BV (a.rs.lenv (by rfl)) ?_|refine BV (b.rs.lenv (by rfl)) ?_|refine BV (v_neq_f rfl rfl (by omega)) ?_|refine BP ?_)|(refine BK ?_;first|refine BS rfl rfl ?_|refine BT rfl rfl ?_|refine BU rfl ?_)|(refine BL ?_;first|refine BQ ?_)|(refine BR ?_;try simp only [setS]))|refine AA ?_|refine AC ?_|refine AD ?_|refine AE ?_|refine AF rfl rfl ?_|refine AG rfl rfl ?_|refine AH ?_|refine AI ?_|refine AJ ?_|refine AK ?_|refine AL ?_|refine AM ?_|refine AN ?_|refine AO ?_|refine AP ?_|refine AQ rfl ?_|refine AR ?_|refine AS ?_|refine AT rfl ?_|refine AU rfl ?_
  refine wb_loop (fun n t hh => ∃ (i : Nat) (s4 s5 s6 : AV), i ≤ l.length ∧ n = l.length - i ∧ hh = h ∧ (∀ j, j < i → l[j]? = m[j]?) ∧ t = [v, w, .bool false, .int .i64 i, s4, s5, s6]) ?_ l.length _ _ ⟨0, _, _, _, by omega, by omega, rfl, by omega, rfl⟩
  rintro n t hh ⟨i, s4, s5, s6, hi, hm, eh, hall, rfl⟩
  have eh := eh.symm
  subst eh
  by_cases hlt : i < l.length
  · obtain ⟨p, hp⟩ : ∃ s, l[i]? = some s := ⟨_, List.getElem?_eq_getElem hlt⟩
    obtain ⟨q, hq⟩ : ∃ s, m[i]? = some s := ⟨_, List.getElem?_eq_getElem (by omega)⟩
    obtain ⟨g, o, c0, c1, c2, c3⟩ := a.rs.atS hp
    obtain ⟨g', o', d0, d1, d2, d3⟩ := b.rs.atS hq
    have kr := Keep.refl (NoB) (h : Hp X)
    by_cases hpq : p = q
    · subst hpq
      repeat first|(refine BG ?_;first|(refine BH ?_;first|(refine BI ?_;refine BM ?_)|(refine BJ ?_;first|refine BN ?_|refine BO ?_)|refine BV (a.rs.lenv (by rfl)) ?_|refine BP ?_)|(refine BK ?_;first|refine BS rfl rfl ?_|refine BT rfl rfl ?_|refine BU rfl ?_)|(refine BL ?_;first|refine BQ ?_)|(refine BR ?_;try simp only [setS]))|refine AA ?_|refine AC ?_|refine AD ?_|refine AF rfl rfl ?_|refine AG rfl rfl ?_|refine AH ?_|refine AI ?_|refine AJ ?_|refine AK ?_|refine AL ?_|refine AM ?_|refine AN ?_|refine AO ?_|refine AP ?_|refine AQ rfl ?_|refine AR ?_|refine AS ?_|refine AT rfl ?_|refine AU rfl ?_
      repeat first|(refine BG ?_;first|(refine BH ?_;first|(refine BI ?_;refine BM ?_)|(refine BJ ?_;first|refine BN ?_|refine BO ?_)|refine BV (c0 rfl rfl) ?_|refine BV (d0 rfl rfl) ?_|refine BV (c3 kr rfl) ?_|refine BV (d3 kr rfl) ?_|refine BV (v_seq3t rfl rfl rfl) ?_|refine BP ?_)|(refine BK ?_;first|refine BS rfl rfl ?_|refine BT rfl rfl ?_|refine BU rfl ?_)|(refine BL ?_;first|refine BQ ?_)|(refine BR ?_;try simp only [setS]))|(refine BX ?_;first|refine BY rfl ?_|(refine BZ ?_;refine CA ?_)|refine CB (c0 rfl rfl) ?_|refine CB (d0 rfl rfl) ?_|refine CB (c3 kr rfl) ?_|refine CB (d3 kr rfl) ?_|refine CB (v_seq3t rfl rfl rfl) ?_|refine CC ?_|(refine CD ?_;try simp only [setS]))|refine AA ?_|refine AC ?_|refine AD ?_|refine AE ?_|refine AF rfl rfl ?_|refine AG rfl rfl ?_|refine AH ?_|refine AI ?_|refine AJ ?_|refine AK ?_|refine AL ?_|refine AM ?_|refine AN ?_|refine AO ?_|refine AP ?_|refine AQ rfl ?_|refine AR ?_|refine AS ?_|refine AT rfl ?_|refine AU rfl ?_
      rw [show ((i : Int) + 1) = ((i + 1 : Nat) : Int) by omega]
      refine round_norm (n - 1) (by omega) ⟨i + 1, _, _, _, by omega, by omega, rfl, fun j hj => ?_, rfl⟩
      by_cases hji : j = i
      · subst hji; rw [hp, hq]
      · exact hall j (by omega)
    · rw [decide_eq_false (show l ≠ m from fun e => hpq (by subst e; rw [hp] at hq; cases hq; rfl))]
      repeat first|(refine BG ?_;first|(refine BH ?_;first|(refine BI ?_;refine BM ?_)|(refine BJ ?_;first|refine BN ?_|refine BO ?_)|refine BV (a.rs.lenv (by rfl)) ?_|refine BP ?_)|(refine BK ?_;first|refine BS rfl rfl ?_|refine BT rfl rfl ?_|refine BU rfl ?_)|(refine BL ?_;first|refine BQ ?_)|(refine BR ?_;try simp only [setS]))|refine AA ?_|refine AC ?_|refine AD ?_|refine AF rfl rfl ?_|refine AG rfl rfl ?_|refine AH ?_|refine AI ?_|refine AJ ?_|refine AK ?_|refine AL ?_|refine AM ?_|refine AN ?_|refine AO ?_|refine AP ?_|refine AQ rfl ?_|refine AR ?_|refine AS ?_|refine AT rfl ?_|refine AU rfl ?_
      repeat first|(refine BG ?_;first|(refine BH ?_;first|(refine BI ?_;refine BM ?_)|(refine BJ ?_;first|refine BN ?_|refine BO ?_)|refine BV (c0 rfl rfl) ?_|refine BV (d0 rfl rfl) ?_|refine BV (c3 kr rfl) ?_|refine BV (d3 kr rfl) ?_|refine BV (v_seq3f rfl rfl hpq) ?_|refine BP ?_)|(refine BK ?_;first|refine BS rfl rfl ?_|refine BT rfl rfl ?_|refine BU rfl ?_)|(refine BL ?_;first|refine BQ ?_)|(refine BR ?_;try simp only [setS]))|(refine BX ?_;first|refine BY rfl ?_|(refine BZ ?_;refine CA ?_)|refine CB (c0 rfl rfl) ?_|refine CB (d0 rfl rfl) ?_|refine CB (c3 kr rfl) ?_|refine CB (d3 kr rfl) ?_|refine CB (v_seq3f rfl rfl hpq) ?_|refine CC ?_|(refine CD ?_;try simp only [setS]))|refine AA ?_|refine AC ?_|refine AD ?_|refine AE ?_|refine AF rfl rfl ?_|refine AG rfl rfl ?_|refine AH ?_|refine AI ?_|refine AJ ?_|refine AK ?_|refine AL ?_|refine AM ?_|refine AN ?_|refine AO ?_|refine AP ?_|refine AQ rfl ?_|refine AR ?_|refine AS ?_|refine AT rfl ?_|refine AU rfl ?_
      exact ⟨rfl, rfl⟩
  · rw [decide_eq_true (show l = m from List.ext_getElem? fun j => by
      by_cases hj : j < i
      · exact hall j hj
      · rw [List.getElem?_eq_none (by omega), List.getElem?_eq_none (by omega)])]
    repeat first|(refine BG ?_;first|(refine BH ?_;first|(refine BI ?_;refine BM ?_)|(refine BJ ?_;first|refine BN ?_|refine BO ?_)|refine BV (a.rs.lenv (by rfl)) ?_|refine BP ?_)|(refine BK ?_;first|refine BS rfl rfl ?_|refine BT rfl rfl ?_|refine BU rfl ?_)|(refine BL ?_;first|refine BQ ?_)|(refine BR ?_;try simp only [setS]))|refine AA ?_|refine AC ?_|refine AD ?_|refine AE ?_|refine AF rfl rfl ?_|refine AG rfl rfl ?_|refine AH ?_|refine AI ?_|refine AJ ?_|refine AK ?_|refine AL ?_|refine AM ?_|refine AN ?_|refine AO ?_|refine AP ?_|refine AQ rfl ?_|refine AR ?_|refine AS ?_|refine AT rfl ?_|refine AU rfl ?_
    exact ⟨rfl, rfl⟩
end
end Am
end Go.Proofs.Ytkgplkddpigagaa
