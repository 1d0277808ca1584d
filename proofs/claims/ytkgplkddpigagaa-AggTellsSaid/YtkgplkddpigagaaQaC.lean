/- Series as they lie; down.Right; lerp.place. -/
import Derived.Test.YtkgplkddpigagaaQaB
set_option linter.unusedVariables false
set_option linter.unusedSimpArgs false
namespace Go.Proofs.Ytkgplkddpigagaa
namespace Am
open Go.RowKit
set_option maxRecDepth 100000
def b_downRight : BF := ⟨42, [0, 2, 3, 4, 5, 6, 7, 8, 40], (.seq (.reg [.mk none (.slot 1) (.mov (.mv (.const (.bool false))))]) (.seq (.seq (.reg [.mk none (.slot 4) (.mov (.mv (.slot 0))), .mk none (.slot 5) (.mov (.lenv (.slot 4))), .mk none (.slot 6) (.mov (.mv (.const (.int .i64 0))))]) (.block 0 (.loop (.seq (.reg [.mk none (.slot 7) (.mov (.bin .lss .no (.slot 6) (.slot 5)))]) (.seq (.cond (.slot 7) .skip (.exit 0)) (.seq (.block 1 (.seq (.reg [.mk none (.env 9) (.mov (.mv (.slot 6))), .mk none (.env 10) (.mov (.iaddr 3 (.slot 4) (.slot 6))), .mk none (.env 11) (.mov (.ldn 3 (.env 10))), .mk none (.slot 3) (.eff (.alloc [(.int .i64 0), (.int .i64 0), (.int .i64 0)])), .mk none (.slot 2) (.mov (.mv (.env 9))), .mk none .none (.eff (.store 3 (.slot 3) (.env 11)))]) (.seq (.dreg [(.mk none (.env 12) (.mov (.faddr 0 (.slot 3))), []), (.mk none (.env 13) (.mov (.ld1 (.env 12))), []), (.mk none (.env 14) (.mov (.bin .lss .no (.env 13) (.const (.int .i64 0)))), []), (.mk none (.env 15) (.mov (.mv (.env 14))), []), (.mk (some ((.env 15), false)) (.env 16) (.mov (.faddr 0 (.slot 3))), []), (.mk (some ((.env 15), false)) (.env 17) (.mov (.ld1 (.env 16))), []), (.mk (some ((.env 15), false)) (.env 18) (.mov (.bin .gtr .no (.env 17) (.const (.int .i64 4294967295)))), []), (.mk none (.env 19) (.mov (.pick (.env 15) (.const (.bool true)) (.env 18))), []), (.mk none (.env 20) (.mov (.mv (.env 19))), []), (.mk (some ((.env 20), false)) (.env 21) (.mov (.faddr 1 (.slot 3))), []), (.mk (some ((.env 20), false)) (.env 22) (.mov (.ldn 2 (.env 21))), []), (.mk (some ((.env 20), false)) (.env 23) (.call 39 [(.env 22)]), []), (.mk (some ((.env 20), false)) (.env 24) (.mov (.notb (.env 23))), []), (.mk none (.env 25) (.mov (.pick (.env 20) (.const (.bool true)) (.env 24))), []), (.mk none (.env 26) (.mov (.mv (.env 25))), []), (.mk (some ((.env 26), false)) (.env 27) (.mov (.mv (.slot 2))), []), (.mk (some ((.env 26), false)) (.env 28) (.mov (.bin .gtr .no (.env 27) (.const (.int .i64 0)))), []), (.mk (some ((.env 26), false)) (.env 29) (.mov (.mv (.env 28))), []), (.mk (some ((.env 29), true)) (.env 30) (.mov (.mv (.slot 0))), []), (.mk (some ((.env 29), true)) (.env 31) (.mov (.mv (.slot 2))), []), (.mk (some ((.env 29), true)) (.env 32) (.mov (.bin .sub .no (.env 31) (.const (.int .i64 1)))), []), (.mk (some ((.env 29), true)) (.env 33) (.mov (.iaddr 3 (.env 30) (.env 32))), []), (.mk (some ((.env 29), true)) (.env 34) (.mov (.faddr 0 (.env 33))), []), (.mk (some ((.env 29), true)) (.env 35) (.mov (.ld1 (.env 34))), []), (.mk (some ((.env 29), true)) (.env 36) (.mov (.faddr 0 (.slot 3))), []), (.mk (some ((.env 29), true)) (.env 37) (.mov (.ld1 (.env 36))), []), (.mk (some ((.env 29), true)) (.env 38) (.mov (.bin .geq .no (.env 35) (.env 37))), []), (.mk (some ((.env 26), false)) (.env 39) (.mov (.pick (.env 29) (.env 38) (.const (.bool false)))), []), (.mk none (.slot 8) (.mov (.pick (.env 26) (.const (.bool true)) (.env 39))), [])]) (.cond (.slot 8) (.seq (.reg [.mk none (.slot 1) (.mov (.mv (.const (.bool false))))]) .ret) .skip)))) (.reg [.mk none (.env 41) (.mov (.bin .add .no (.slot 6) (.const (.int .i64 1)))), .mk none (.slot 6) (.mov (.mv (.env 41)))]))))))) (.seq (.reg [.mk none (.slot 1) (.mov (.mv (.const (.bool true))))]) .ret))), [.slot (.slot 1)]⟩
def b_lerpPlace : BF := ⟨28, [0, 1, 4, 5, 6, 7, 12, 23], (.seq (.reg [.mk none (.slot 2) (.mov (.mv (.const (.int .i64 0))))]) (.seq (.reg [.mk none (.env 8) (.mov (.mv (.slot 0))), .mk none (.env 9) (.mov (.lenv (.env 8))), .mk none (.slot 3) (.mov (.mv (.const (.int .i64 0)))), .mk none (.slot 4) (.mov (.mv (.env 9)))]) (.seq (.block 0 (.loop (.seq (.seq (.reg [.mk none (.env 10) (.mov (.mv (.slot 3))), .mk none (.env 11) (.mov (.mv (.slot 4))), .mk none (.slot 6) (.mov (.bin .lss .no (.env 10) (.env 11)))]) (.cond (.slot 6) .skip (.exit 0))) (.block 1 (.seq (.reg [.mk none (.env 13) (.mov (.mv (.slot 3))), .mk none (.env 14) (.mov (.mv (.slot 4))), .mk none (.env 15) (.mov (.bin .add .no (.env 13) (.env 14))), .mk none (.env 16) (.mov (.bin .quo .no (.env 15) (.const (.int .i64 2)))), .mk none (.slot 5) (.mov (.mv (.env 16)))]) (.seq (.reg [.mk none (.env 17) (.mov (.mv (.slot 0))), .mk none (.env 18) (.mov (.mv (.slot 5))), .mk none (.env 19) (.mov (.iaddr 3 (.env 17) (.env 18))), .mk none (.env 20) (.mov (.faddr 0 (.env 19))), .mk none (.env 21) (.mov (.ld1 (.env 20))), .mk none (.env 22) (.mov (.mv (.slot 1))), .mk none (.slot 7) (.mov (.bin .lss .no (.env 21) (.env 22)))]) (.cond (.slot 7) (.reg [.mk none (.env 24) (.mov (.mv (.slot 5))), .mk none (.env 25) (.mov (.bin .add .no (.env 24) (.const (.int .i64 1)))), .mk none (.slot 3) (.mov (.mv (.env 25)))]) (.reg [.mk none (.env 26) (.mov (.mv (.slot 5))), .mk none (.slot 4) (.mov (.mv (.env 26)))])))))))) (.seq (.reg [.mk none (.env 27) (.mov (.mv (.slot 3))), .mk none (.slot 2) (.mov (.mv (.env 27)))]) .ret)))), [.slot (.slot 2)]⟩
structure SM where
  t : Int
  q : QQ
def sc (s : SM) : List AV := [.int .i64 s.t, .int .i64 s.q.1, .int .i64 s.q.2]
theorem sc_len (l : List SM) : (l.flatMap sc).length = l.length * 3 := by
  induction l with
  | nil => rfl
  | cons q l ih => rw [List.flatMap_cons, List.length_append, ih, List.length_cons, Nat.succ_mul, Nat.add_comm]; rfl
theorem sc_at : ∀ {l : List SM} {i : Nat} {q : SM} {j : Nat}, l[i]? = some q → j < 3 → (l.flatMap sc)[i * 3 + j]? = (sc q)[j]?
  | [], i, q, j, h, _ => by simp at h
  | p :: l, 0, q, j, h, hj => by
    simp at h; subst h
    rw [List.flatMap_cons, List.getElem?_append_left (by simp [sc]; omega)]
    simp
  | p :: l, i + 1, q, j, h, hj => by
    simp at h
    rw [List.flatMap_cons, List.getElem?_append_right (by simp [sc]; omega)]
    have e : (i + 1) * 3 + j - (sc p).length = i * 3 + j := by simp [sc]; omega
    rw [e]
    exact sc_at h hj
theorem sc_row : ∀ {l : List SM} {i : Nat} {q : SM}, l[i]? = some q → ((l.flatMap sc).drop (i * 3)).take 3 = sc q
  | [], i, q, h => by simp at h
  | p :: l, 0, q, h => by
    simp at h; subst h
    rw [List.flatMap_cons, Nat.zero_mul, List.drop_zero]
    exact List.take_left (l₁ := sc p)
  | p :: l, i + 1, q, h => by
    simp at h
    rw [List.flatMap_cons]
    have e : (i + 1) * 3 = (sc p).length + i * 3 := by simp [sc]; omega
    rw [e, ← List.drop_drop, List.drop_left]
    exact sc_row h
section
variable {X : Type} {h h' : Hp X}
theorem RS.atS {n : Nat} {v : AV} {l : List SM} (a : RS h 3 v n (l.flatMap sc)) {i : Nat} {q : SM} (hi : l[i]? = some q) : ∃ g o, (∀ {hh : Hp X} {e : En} {t : List AV} {x y : Od} {k : IntKind}, x.ev e t = v → y.ev e t = .int k (i : Int) → (Mv.iaddr 3 x y).ev e t hh = some (.ptr g o)) ∧
    (∀ {hh : Hp X} {e : En} {t : List AV} {x : Od}, Keep NoB h hh → x.ev e t = .ptr g (o + 0) → (Mv.ld1 x).ev e t hh = some (.int .i64 q.t)) ∧
    (∀ {hh : Hp X} {e : En} {t : List AV} {x : Od}, Keep NoB h hh → x.ev e t = .ptr g (o + 1) → (Mv.ldn 2 x).ev e t hh = some (qv q.q)) ∧
    (∀ {hh : Hp X} {e : En} {t : List AV} {x : Od}, Keep NoB h hh → x.ev e t = .ptr g o → (Mv.ldn 3 x).ev e t hh = some (.agg (sc q))) := by
  have hlen := a.len
  rw [sc_len] at hlen
  have hil := (List.getElem?_eq_some_iff.1 hi).1
  have hin : i < n := by omega
  cases v <;> first | exact a.elim | skip
  · rename_i z g o m cap
    obtain ⟨rfl, rfl, hg, ll, hl, hle, hc⟩ := a
    have hrow := sc_row hi
    rw [hc, List.drop_take, List.take_take, List.drop_drop, Nat.min_eq_left (by omega)] at hrow
    refine ⟨g, o + i * 3, fun {hh e t x y k} hx hy => ?_, fun {hh e t x} hk hx => ?_, fun {hh e t x} hk hx => ?_, fun {hh e t x} hk hx => ?_⟩
    · simp only [Mv.ev, hx, hy, nOf]
      rw [show Nat.blt i m = true by rw [Nat.blt_eq]; exact hin]
      rfl
    · simp only [Mv.ev, hx, AV.onPtr]
      rw [rowOf_get (hk.get g hg (fun q => q)), hl]
      simp only
      have := sc_at (j := 0) hi (by decide)
      rw [hc, List.getElem?_take_of_lt (by omega), List.getElem?_drop] at this
      rw [getN_ge, Nat.add_zero]
      rw [Nat.add_zero] at this
      rw [this]
      rfl
    · simp only [Mv.ev, hx, AV.onPtr]
      rw [rowOf_get (hk.get g hg (fun q => q)), hl]
      unfold takeN
      have hb : (o + i * 3 + 1 + 2).ble ll.length = true := ble_t (by omega)
      simp only [hb, cond_true]
      have e : List.take 2 (List.drop (o + i * 3 + 1) ll) = [.int .i64 q.q.1, .int .i64 q.q.2] := by
        have h2 := congrArg (List.drop 1) hrow
        rw [List.drop_take, List.drop_drop] at h2
        exact h2
      rw [e]
      rfl
    · simp only [Mv.ev, hx, AV.onPtr]
      rw [rowOf_get (hk.get g hg (fun q => q)), hl]
      unfold takeN
      have hb : (o + i * 3 + 3).ble ll.length = true := ble_t (by omega)
      simp only [hb, cond_true, hrow]
  · obtain ⟨rfl, _⟩ := a; omega
  · obtain ⟨rfl, _⟩ := a; omega
structure Ser (h : Hp X) (v : AV) (l : List SM) : Prop where
  rs : RS h 3 v l.length (l.flatMap sc)
  len : l.length ≤ 1000000
  row : ∀ s ∈ l, I64 s.t ∧ I64Q s.q
theorem Ser.keep {S : Nat → Prop} {v : AV} {l : List SM} (a : Ser h v l) (k : Keep S h h') (hs : ∀ k, blk v k → ¬ S k) : Ser h' v l := ⟨a.rs.keep k hs, a.len, a.row⟩
theorem Ser.up {v : AV} {l : List SM} (a : Ser h v l) (k : Keep NoB h h') : Ser h' v l := ⟨a.rs.up k, a.len, a.row⟩
end
structure SOK (l : List SM) (i : Nat) (s : SM) : Prop where
  t0 : 0 ≤ s.t
  t1 : s.t ≤ 4294967295
  q : rightF s.q = true
  up : ∀ p, 0 < i → l[i - 1]? = some p → p.t < s.t
def RightS (l : List SM) : Prop := ∀ (i : Nat) s, l[i]? = some s → SOK l i s
theorem int_all3 {a b c : Int} : allOne [.int .i64 a, .int .i64 b, .int .i64 c] = true := rfl
section
variable {X : Type} {E : Nat → Option (Ent X)}
set_option maxHeartbeats 1000000 in
theorem dright_ok (hE : ∀ f e, E f = some e → e.plain) (T : QaS E) (hf : E 25 = some (.bc b_downRight)) {h : Hp X} {v : AV} {l : List SM} (a : Ser h v l) : WF (lim E) 25 [v] h fun x h' => Keep NoB h h' ∧ ∃ b, x = .bool b ∧ (b = true ↔ RightS l) := by
  refine wf_bc hE hf rfl ?_
  simp only [b_downRight, List.map, getS]
  have hlen := a.len
  repeat first|(refine BG ?_;first|(refine BH ?_;first|(refine BI ?_;refine BM ?_)|(refine BJ ?_;first|refine BN ?_|refine BO ?_)|refine BV (a.rs.lenv (by rfl)) ?_|refine BP ?_)|(refine BK ?_;first|refine BS rfl rfl ?_|refine BT rfl rfl ?_|refine BU rfl ?_)|(refine BL ?_;first|refine BQ ?_)|(refine BR ?_;try simp only [setS]))|refine AA ?_|refine AC ?_|refine AD ?_|refine AE ?_|refine AF rfl rfl ?_|refine AG rfl rfl ?_|refine AH ?_|refine AI ?_|refine AJ ?_|refine AK ?_|refine AL ?_|refine AM ?_|refine AN ?_|refine AO ?_|refine AP ?_|refine AQ rfl ?_|refine AR ?_|refine AS ?_|refine AT rfl ?_|refine AU rfl ?_
  refine wb_loop (fun n t hh => ∃ (i : Nat) (s2 s3 s7 s8 : AV), i ≤ l.length ∧ n = l.length - i ∧ Keep NoB h hh ∧ (∀ (j : Nat) s, j < i → l[j]? = some s → SOK l j s) ∧ t = [v, .bool false, s2, s3, v, .int .i64 l.length, .int .i64 i, s7, s8]) ?_ l.length _ _ ⟨0, _, _, _, _, by omega, by omega, Keep.refl _ _, by omega, rfl⟩
  rintro n t hh ⟨i, s2, s3, s7, s8, hi, hm, K, hok, rfl⟩
  by_cases hlt : i < l.length
  · obtain ⟨s, hs⟩ : ∃ s, l[i]? = some s := ⟨_, List.getElem?_eq_getElem hlt⟩
    have a1 := a.up K
    obtain ⟨hst, hsq⟩ := a.row s (List.mem_of_getElem? hs)
    obtain ⟨g, o, c0, c1, c2, c3⟩ := a1.rs.atS hs
    have kr := Keep.refl (NoB) (hh : Hp X)
    have bx : Bx (hh.push (.rw [.int .i64 0, .int .i64 0, .int .i64 0])) hh.n [.int .i64 0, .int .i64 0, .int .i64 0] := bx_push
    have kp : Keep NoB hh (hh.push (.rw [.int .i64 0, .int .i64 0, .int .i64 0])) := Keep.push _ _ _
    repeat first|(refine BG ?_;first|(refine BH ?_;first|(refine BI ?_;refine BM ?_)|(refine BJ ?_;first|refine BN ?_|refine BO ?_)|refine BV (c0 rfl rfl) ?_|refine BV (c3 kr rfl) ?_|refine BP ?_)|(refine BK ?_;first|refine BS rfl rfl ?_|refine BT rfl rfl ?_|refine BU rfl ?_)|(refine BL ?_;first|refine BW (ef_bxn bx rfl rfl int_all3 rfl (Nat.le_refl _)) ?_|refine BQ ?_)|(refine BR ?_;try simp only [setS]))|refine AA ?_|refine AC ?_|refine AD ?_|refine AF rfl rfl ?_|refine AG rfl rfl ?_|refine AH ?_|refine AI ?_|refine AJ ?_|refine AK ?_|refine AL ?_|refine AM ?_|refine AN ?_|refine AO ?_|refine AP ?_|refine AQ rfl ?_|refine AR ?_|refine AS ?_|refine AT rfl ?_|refine AU rfl ?_
    refine wb_hq (h' := (hh.push (.rw [.int .i64 0, .int .i64 0, .int .i64 0])).put hh.n (.rw (sc s))) rfl ?_
    have k2 : Keep (OneB hh.n) (hh.push (.rw [.int .i64 0, .int .i64 0, .int .i64 0])) ((hh.push (.rw [.int .i64 0, .int .i64 0, .int .i64 0])).put hh.n (.rw (sc s))) := Keep.put _ _ _ rfl
    have k3 : Keep NoB hh ((hh.push (.rw [.int .i64 0, .int .i64 0, .int .i64 0])).put hh.n (.rw (sc s))) := kp.own k2 (fun k q => Nat.le_of_eq q.symm)
    have b3 : Bx ((hh.push (.rw [.int .i64 0, .int .i64 0, .int .i64 0])).put hh.n (.rw (sc s))) hh.n (sc s) := bx.put
    generalize (hh.push (.rw [.int .i64 0, .int .i64 0, .int .i64 0])).put hh.n (.rw (sc s)) = h3 at *
    have K3 := K.and k3
    have no : ∀ {P : Prop}, ¬ P → (SOK l i s → P) → ((false : Bool) = true ↔ RightS l) := fun hp hq => ⟨fun q => (by cases q), fun r => absurd (hq (r i s hs)) hp⟩
    by_cases h0 : s.t < 0
    · repeat first|(refine BG ?_;first|(refine BH ?_;first|(refine BI ?_;refine BM ?_)|(refine BJ ?_;first|refine BN ?_|refine BO ?_)|refine BV (v_bx b3 rfl rfl) ?_|refine BP ?_)|(refine BK ?_;first|refine BS rfl rfl ?_|refine BT rfl rfl ?_|refine BU rfl ?_)|(refine BL ?_;first|refine BQ ?_)|(refine BR ?_;try simp only [setS]))|(refine BX ?_;first|refine BY rfl ?_|refine (wd_gq rfl) ?_|(refine BZ ?_;refine CA ?_)|refine CB (v_bx b3 rfl rfl) ?_|refine CC ?_|(refine CD ?_;try simp only [setS]))|refine AA ?_|refine AC ?_|refine AD ?_|refine AE ?_|refine AF rfl rfl ?_|refine AG rfl rfl ?_|refine AH ?_|refine AI ?_|refine AJ ?_|refine AK ?_|refine AL ?_|refine AM ?_|refine AN ?_|refine AO ?_|refine AP ?_|refine AQ rfl ?_|refine AR ?_|refine AS ?_|refine AT rfl ?_|refine AU rfl ?_
      exact ⟨K3, false, rfl, no (by omega : ¬ 0 ≤ s.t) (fun q => q.t0)⟩
    by_cases h1 : (4294967295 : Int) < s.t
    · repeat first|(refine BG ?_;first|(refine BH ?_;first|(refine BI ?_;refine BM ?_)|(refine BJ ?_;first|refine BN ?_|refine BO ?_)|refine BV (v_bx b3 rfl rfl) ?_|refine BP ?_)|(refine BK ?_;first|refine BS rfl rfl ?_|refine BT rfl rfl ?_|refine BU rfl ?_)|(refine BL ?_;first|refine BQ ?_)|(refine BR ?_;try simp only [setS]))|(refine BX ?_;first|refine BY rfl ?_|refine (wd_gq rfl) ?_|(refine BZ ?_;refine CA ?_)|refine CB (v_bx b3 rfl rfl) ?_|refine CC ?_|(refine CD ?_;try simp only [setS]))|refine AA ?_|refine AC ?_|refine AD ?_|refine AE ?_|refine AF rfl rfl ?_|refine AG rfl rfl ?_|refine AH ?_|refine AI ?_|refine AJ ?_|refine AK ?_|refine AL ?_|refine AM ?_|refine AN ?_|refine AO ?_|refine AP ?_|refine AQ rfl ?_|refine AR ?_|refine AS ?_|refine AT rfl ?_|refine AU rfl ?_
      exact ⟨K3, false, rfl, no (by omega : ¬ s.t ≤ 4294967295) (fun q => q.t1)⟩
    repeat first|(refine BG ?_;first|(refine BH ?_;first|(refine BI ?_;refine BM ?_)|(refine BJ ?_;first|refine BN ?_|refine BO ?_)|refine BV (v_bx b3 rfl rfl) ?_|refine BV (v_bxn b3 rfl (Nat.le_refl _)) ?_|refine BP ?_)|(refine BK ?_;first|refine BS rfl rfl ?_|refine BT rfl rfl ?_|refine BU rfl ?_)|(refine BL ?_;first|refine BQ ?_)|(refine BR ?_;try simp only [setS]))|(refine BX ?_;first|refine BY rfl ?_|(refine BZ ?_;refine CA ?_)|refine CB (v_bx b3 rfl rfl) ?_|refine CB (v_bxn b3 rfl (Nat.le_refl _)) ?_|refine CC ?_|(refine CD ?_;try simp only [setS]))|refine AA ?_|refine AC ?_|refine AD ?_|refine AE ?_|refine AF rfl rfl ?_|refine AG rfl rfl ?_|refine AH ?_|refine AI ?_|refine AJ ?_|refine AK ?_|refine AL ?_|refine AM ?_|refine AN ?_|refine AO ?_|refine AP ?_|refine AQ rfl ?_|refine AR ?_|refine AS ?_|refine AT rfl ?_|refine AU rfl ?_
    refine wd_calls_e rfl ((rightq_ok hE T hsq).mono fun x h4 ⟨k4, e4⟩ => ?_)
    subst e4
    refine ⟨chk_nil, ?_⟩
    have b4 := b3.up k4
    have K4 := K3.and k4
    have k34 := k3.and k4
    rcases Bool.eq_false_or_eq_true (rightF s.q) with hr | hr
    case' inr =>
      rw [hr]
      repeat first|(refine BG ?_;first|(refine BH ?_;first|(refine BI ?_;refine BM ?_)|(refine BJ ?_;first|refine BN ?_|refine BO ?_)|refine BV (v_notb rfl) ?_|refine BP ?_)|(refine BK ?_;first|refine BS rfl rfl ?_|refine BT rfl rfl ?_|refine BU rfl ?_)|(refine BL ?_;first|refine BQ ?_)|(refine BR ?_;try simp only [setS]))|(refine BX ?_;first|refine BY rfl ?_|refine (wd_gq rfl) ?_|(refine BZ ?_;refine CA ?_)|refine CB (v_notb rfl) ?_|refine CC ?_|(refine CD ?_;try simp only [setS]))|refine AA ?_|refine AC ?_|refine AD ?_|refine AE ?_|refine AF rfl rfl ?_|refine AG rfl rfl ?_|refine AH ?_|refine AI ?_|refine AJ ?_|refine AK ?_|refine AL ?_|refine AM ?_|refine AN ?_|refine AO ?_|refine AP ?_|refine AQ rfl ?_|refine AR ?_|refine AS ?_|refine AT rfl ?_|refine AU rfl ?_
      exact ⟨K4, false, rfl, no (by rw [hr]; decide : ¬ rightF s.q = true) (fun q => q.q)⟩
    rw [hr]
    rcases Nat.eq_zero_or_pos i with hi0 | hi0
    · subst hi0
      repeat first|(refine BG ?_;first|(refine BH ?_;first|(refine BI ?_;refine BM ?_)|(refine BJ ?_;first|refine BN ?_|refine BO ?_)|refine BV (v_notb rfl) ?_|refine BP ?_)|(refine BK ?_;first|refine BS rfl rfl ?_|refine BT rfl rfl ?_|refine BU rfl ?_)|(refine BL ?_;first|refine BQ ?_)|(refine BR ?_;try simp only [setS]))|(refine BX ?_;first|refine BY rfl ?_|refine (wd_gq rfl) ?_|(refine BZ ?_;refine CA ?_)|refine CB (v_notb rfl) ?_|refine CC ?_|(refine CD ?_;try simp only [setS]))|refine AA ?_|refine AC ?_|refine AD ?_|refine AE ?_|refine AF rfl rfl ?_|refine AG rfl rfl ?_|refine AH ?_|refine AI ?_|refine AJ ?_|refine AK ?_|refine AL ?_|refine AM ?_|refine AN ?_|refine AO ?_|refine AP ?_|refine AQ rfl ?_|refine AR ?_|refine AS ?_|refine AT rfl ?_|refine AU rfl ?_
      rw [show (((0 : Nat) : Int) + 1) = ((0 + 1 : Nat) : Int) by omega]
      refine round_norm (n - 1) (by omega) ⟨0 + 1, _, _, _, _, by omega, by omega, K4, fun j s' h5 h6 => ?_, rfl⟩
      obtain rfl : j = 0 := by omega
      rw [hs] at h6; cases h6
      exact ⟨by omega, by omega, hr, fun p hp => absurd hp (Nat.lt_irrefl _)⟩
    · obtain ⟨m, rfl⟩ : ∃ m, i = m + 1 := ⟨i - 1, by omega⟩
      obtain ⟨p, hp⟩ : ∃ p, l[m]? = some p := ⟨_, List.getElem?_eq_getElem (by omega)⟩
      obtain ⟨g', o', d0, d1, d2, d3⟩ := a1.rs.atS hp
      by_cases hup : p.t < s.t
      · repeat first|(refine BG ?_;first|(refine BH ?_;first|(refine BI ?_;refine BM ?_)|(refine BJ ?_;first|refine BN ?_|refine BO ?_)|refine BV (v_notb rfl) ?_|refine BV (v_pred rfl rfl (by omega)) ?_|refine BV (d0 rfl rfl) ?_|refine BV (d1 k34 rfl) ?_|refine BV (v_bx b4 rfl rfl) ?_|refine BP ?_)|(refine BK ?_;first|refine BS rfl rfl ?_|refine BT rfl rfl ?_|refine BU rfl ?_)|(refine BL ?_;first|refine BQ ?_)|(refine BR ?_;try simp only [setS]))|(refine BX ?_;first|refine BY rfl ?_|(refine BZ ?_;refine CA ?_)|refine CB (v_notb rfl) ?_|refine CB (v_pred rfl rfl (by omega)) ?_|refine CB (d0 rfl rfl) ?_|refine CB (d1 k34 rfl) ?_|refine CB (v_bx b4 rfl rfl) ?_|refine CC ?_|(refine CD ?_;try simp only [setS]))|refine AA ?_|refine AC ?_|refine AD ?_|refine AE ?_|refine AF rfl rfl ?_|refine AG rfl rfl ?_|refine AH ?_|refine AI ?_|refine AJ ?_|refine AK ?_|refine AL ?_|refine AM ?_|refine AN ?_|refine AO ?_|refine AP ?_|refine AQ rfl ?_|refine AR ?_|refine AS ?_|refine AT rfl ?_|refine AU rfl ?_
        rw [show (((m + 1 : Nat) : Int) + 1) = ((m + 1 + 1 : Nat) : Int) by omega]
        refine round_norm (n - 1) (by omega) ⟨m + 1 + 1, _, _, _, _, by omega, by omega, K4, fun j s' h5 h6 => ?_, rfl⟩
        by_cases hj : j = m + 1
        · subst hj
          rw [hs] at h6; cases h6
          refine ⟨by omega, by omega, hr, fun p' _ hp' => ?_⟩
          rw [Nat.add_sub_cancel, hp] at hp'; cases hp'; exact hup
        · exact hok j s' (by omega) h6
      · repeat first|(refine BG ?_;first|(refine BH ?_;first|(refine BI ?_;refine BM ?_)|(refine BJ ?_;first|refine BN ?_|refine BO ?_)|refine BV (v_notb rfl) ?_|refine BV (v_pred rfl rfl (by omega)) ?_|refine BV (d0 rfl rfl) ?_|refine BV (d1 k34 rfl) ?_|refine BV (v_bx b4 rfl rfl) ?_|refine BP ?_)|(refine BK ?_;first|refine BS rfl rfl ?_|refine BT rfl rfl ?_|refine BU rfl ?_)|(refine BL ?_;first|refine BQ ?_)|(refine BR ?_;try simp only [setS]))|(refine BX ?_;first|refine BY rfl ?_|(refine BZ ?_;refine CA ?_)|refine CB (v_notb rfl) ?_|refine CB (v_pred rfl rfl (by omega)) ?_|refine CB (d0 rfl rfl) ?_|refine CB (d1 k34 rfl) ?_|refine CB (v_bx b4 rfl rfl) ?_|refine CC ?_|(refine CD ?_;try simp only [setS]))|refine AA ?_|refine AC ?_|refine AD ?_|refine AE ?_|refine AF rfl rfl ?_|refine AG rfl rfl ?_|refine AH ?_|refine AI ?_|refine AJ ?_|refine AK ?_|refine AL ?_|refine AM ?_|refine AN ?_|refine AO ?_|refine AP ?_|refine AQ rfl ?_|refine AR ?_|refine AS ?_|refine AT rfl ?_|refine AU rfl ?_
        exact ⟨K4, false, rfl, no hup (fun q => q.up p (by omega) (by rw [Nat.add_sub_cancel]; exact hp))⟩
  · repeat first|(refine BG ?_;first|(refine BH ?_;first|(refine BI ?_;refine BM ?_)|(refine BJ ?_;first|refine BN ?_|refine BO ?_)|refine BP ?_)|(refine BK ?_;first|refine BS rfl rfl ?_|refine BT rfl rfl ?_|refine BU rfl ?_)|(refine BL ?_;first|refine BQ ?_)|(refine BR ?_;try simp only [setS]))|refine AA ?_|refine AC ?_|refine AD ?_|refine AE ?_|refine AF rfl rfl ?_|refine AG rfl rfl ?_|refine AH ?_|refine AI ?_|refine AJ ?_|refine AK ?_|refine AL ?_|refine AM ?_|refine AN ?_|refine AO ?_|refine AP ?_|refine AQ rfl ?_|refine AR ?_|refine AS ?_|refine AT rfl ?_|refine AU rfl ?_
    exact ⟨K, true, rfl, fun _ => fun j s hs => hok j s (by have := (List.getElem?_eq_some_iff.1 hs).1; omega) hs, fun _ => rfl⟩
theorem v_addn {X : Type} {e : En} {t : List AV} {h : Hp X} {q : Eq} {x y : Od} {a b : Nat} (hx : x.ev e t = .int .i64 (a : Int)) (hy : y.ev e t = .int .i64 (b : Int)) (hc : a + b < 4611686018427387904) : (Mv.bin .add q x y).ev e t h = some (.int .i64 ((a + b : Nat) : Int)) := by
  rw [v_add hx hy (by omega), show (a : Int) + (b : Int) = ((a + b : Nat) : Int) by omega]
def plF (l : List SM) (t : Int) : Nat := (l.filter fun s => decide (s.t < t)).length
theorem plF_eq {l : List SM} {t : Int} {p : Nat} (hp : p ≤ l.length) (h1 : ∀ (i : Nat) s, i < p → l[i]? = some s → s.t < t) (h2 : ∀ (i : Nat) s, p ≤ i → l[i]? = some s → ¬ s.t < t) : plF l t = p := by
  unfold plF
  conv => lhs; rw [← List.take_append_drop p l]
  rw [List.filter_append, List.filter_eq_self.2, List.filter_eq_nil_iff.2, List.append_nil, List.length_take, Nat.min_eq_left hp]
  · intro s hs
    obtain ⟨i, hi⟩ := List.mem_iff_getElem?.1 hs
    rw [List.getElem?_drop] at hi
    simp only [decide_eq_true_eq]
    exact h2 _ s (by omega) hi
  · intro s hs
    obtain ⟨i, hi⟩ := List.mem_iff_getElem?.1 hs
    have hil := (List.getElem?_eq_some_iff.1 hi).1
    rw [List.length_take] at hil
    rw [List.getElem?_take_of_lt (by omega)] at hi
    simp only [decide_eq_true_eq]
    exact h1 i s (by omega) hi
theorem RightS.lt {l : List SM} (a : RightS l) : ∀ {i j : Nat} {s u : SM}, i < j → l[i]? = some s → l[j]? = some u → s.t < u.t := by
  intro i j
  induction j with
  | zero => intro s u h; omega
  | succ j ih =>
    intro s u hij hi hj
    obtain ⟨p, hp⟩ : ∃ p, l[j]? = some p := ⟨_, List.getElem?_eq_getElem (by have := (List.getElem?_eq_some_iff.1 hj).1; omega)⟩
    have h1 := (a (j + 1) u hj).up p (by omega) (by rw [Nat.add_sub_cancel]; exact hp)
    by_cases h : i = j
    · subst h
      rw [hi] at hp; cases hp; exact h1
    · have := ih (by omega) hi hp
      omega
theorem v_quo2 {X : Type} {e : En} {t : List AV} {h : Hp X} {q : Eq} {x y : Od} {r : Nat} (hx : x.ev e t = .int .i64 (r : Int)) (hy : y.ev e t = .int .i64 2) (hr : r < 4611686018427387904) : (Mv.bin .quo q x y).ev e t h = some (.int .i64 ((r / 2 : Nat) : Int)) := by
  have e1 : (r : Int).tdiv 2 = ((r / 2 : Nat) : Int) := rfl
  have e2 : wr .i64 ((r / 2 : Nat) : Int) = ((r / 2 : Nat) : Int) := wr64 (by omega)
  simp only [Mv.ev, hx, hy, Am.bin, AV.onInt, isShift, intOp]
  simp only [Bool.false_or, decide_true, cond_true]
  rw [if_neg (by decide), e1, e2]
theorem place_ok (hE : ∀ f e, E f = some e → e.plain) (hf : E 32 = some (.bc b_lerpPlace)) {h : Hp X} {v : AV} {l : List SM} (a : Ser h v l) (hr : RightS l) (t0 : Int) : WF (lim E) 32 [v, .int .i64 t0] h fun x h' => h' = h ∧ x = .int .i64 (plF l t0 : Nat) ∧ plF l t0 ≤ l.length ∧ (∀ (i : Nat) s, i < plF l t0 → l[i]? = some s → s.t < t0) ∧ ∀ (i : Nat) s, plF l t0 ≤ i → l[i]? = some s → ¬ s.t < t0 := by
  refine wf_bc hE hf rfl ?_
  simp only [b_lerpPlace, List.map, getS]
  have hlen := a.len
  repeat first|(refine BG ?_;first|(refine BH ?_;first|(refine BI ?_;refine BM ?_)|(refine BJ ?_;first|refine BN ?_|refine BO ?_)|refine BV (a.rs.lenv (by rfl)) ?_|refine BP ?_)|(refine BK ?_;first|refine BS rfl rfl ?_|refine BT rfl rfl ?_|refine BU rfl ?_)|(refine BL ?_;first|refine BQ ?_)|(refine BR ?_;try simp only [setS]))|refine AA ?_|refine AC ?_|refine AD ?_|refine AE ?_|refine AF rfl rfl ?_|refine AG rfl rfl ?_|refine AH ?_|refine AI ?_|refine AJ ?_|refine AK ?_|refine AL ?_|refine AM ?_|refine AN ?_|refine AO ?_|refine AP ?_|refine AQ rfl ?_|refine AR ?_|refine AS ?_|refine AT rfl ?_|refine AU rfl ?_
  refine wb_loop (fun n t hh => ∃ (lo hi : Nat) (s5 s6 s7 : AV), lo ≤ hi ∧ hi ≤ l.length ∧ n = hi - lo ∧ hh = h ∧ (∀ (i : Nat) s, i < lo → l[i]? = some s → s.t < t0) ∧ (∀ (i : Nat) s, hi ≤ i → l[i]? = some s → ¬ s.t < t0) ∧ t = [v, .int .i64 t0, .int .i64 0, .int .i64 lo, .int .i64 hi, s5, s6, s7]) ?_ l.length _ _ ⟨0, l.length, _, _, _, by omega, by omega, by omega, rfl, by omega, fun i s h1 h2 => by have := (List.getElem?_eq_some_iff.1 h2).1; omega, rfl⟩
  rintro n t hh ⟨lo, hi, s5, s6, s7, hlh, hil, hm, eh, h1, h2, rfl⟩
  have eh := eh.symm
  subst eh
  by_cases hlt : lo < hi
  · obtain ⟨s, hs⟩ : ∃ s, l[(lo + hi) / 2]? = some s := ⟨_, List.getElem?_eq_getElem (by omega)⟩
    obtain ⟨g, o, c0, c1, c2, c3⟩ := a.rs.atS hs
    have kr := Keep.refl (NoB) (h : Hp X)
    have esum : (lo : Int) + (hi : Int) = ((lo + hi : Nat) : Int) := by omega
    by_cases hst : s.t < t0
    · repeat first|(refine BG ?_;first|(refine BH ?_;first|(refine BI ?_;refine BM ?_)|(refine BJ ?_;first|refine BN ?_|refine BO ?_)|refine BV (v_addn rfl rfl (by omega)) ?_|refine BV (v_quo2 rfl rfl (by omega)) ?_|refine BV (c0 rfl rfl) ?_|refine BV (c1 kr rfl) ?_|refine BP ?_)|(refine BK ?_;first|refine BS rfl rfl ?_|refine BT rfl rfl ?_|refine BU rfl ?_)|(refine BL ?_;first|refine BQ ?_)|(refine BR ?_;try simp only [setS]))|refine AA ?_|refine AC ?_|refine AD ?_|refine AE ?_|refine AF rfl rfl ?_|refine AG rfl rfl ?_|refine AH ?_|refine AI ?_|refine AJ ?_|refine AK ?_|refine AL ?_|refine AM ?_|refine AN ?_|refine AO ?_|refine AP ?_|refine AQ rfl ?_|refine AR ?_|refine AS ?_|refine AT rfl ?_|refine AU rfl ?_
      rw [show ((((lo + hi) / 2 : Nat) : Int) + 1) = (((lo + hi) / 2 + 1 : Nat) : Int) by omega]
      refine round_norm (hi - ((lo + hi) / 2 + 1)) (by omega) ⟨(lo + hi) / 2 + 1, hi, _, _, _, by omega, hil, rfl, rfl, fun i u h3 h4 => ?_, h2, rfl⟩
      by_cases hj : i = (lo + hi) / 2
      · subst hj; rw [hs] at h4; cases h4; exact hst
      · have := hr.lt (show i < (lo + hi) / 2 by omega) h4 hs
        omega
    · repeat first|(refine BG ?_;first|(refine BH ?_;first|(refine BI ?_;refine BM ?_)|(refine BJ ?_;first|refine BN ?_|refine BO ?_)|refine BV (v_addn rfl rfl (by omega)) ?_|refine BV (v_quo2 rfl rfl (by omega)) ?_|refine BV (c0 rfl rfl) ?_|refine BV (c1 kr rfl) ?_|refine BP ?_)|(refine BK ?_;first|refine BS rfl rfl ?_|refine BT rfl rfl ?_|refine BU rfl ?_)|(refine BL ?_;first|refine BQ ?_)|(refine BR ?_;try simp only [setS]))|refine AA ?_|refine AC ?_|refine AD ?_|refine AE ?_|refine AF rfl rfl ?_|refine AG rfl rfl ?_|refine AH ?_|refine AI ?_|refine AJ ?_|refine AK ?_|refine AL ?_|refine AM ?_|refine AN ?_|refine AO ?_|refine AP ?_|refine AQ rfl ?_|refine AR ?_|refine AS ?_|refine AT rfl ?_|refine AU rfl ?_
      refine round_norm ((lo + hi) / 2 - lo) (by omega) ⟨lo, (lo + hi) / 2, _, _, _, by omega, by omega, rfl, rfl, h1, fun i u h3 h4 => ?_, rfl⟩
      by_cases hj : i = (lo + hi) / 2
      · subst hj; rw [hs] at h4; cases h4; exact hst
      · have := hr.lt (show (lo + hi) / 2 < i by omega) hs h4
        omega
  · obtain rfl : lo = hi := by omega
    have e := plF_eq hil h1 h2
    repeat first|(refine BG ?_;first|(refine BH ?_;first|(refine BI ?_;refine BM ?_)|(refine BJ ?_;first|refine BN ?_|refine BO ?_)|refine BP ?_)|(refine BK ?_;first|refine BS rfl rfl ?_|refine BT rfl rfl ?_|refine BU rfl ?_)|(refine BL ?_;first|refine BQ ?_)|(refine BR ?_;try simp only [setS]))|refine AA ?_|refine AC ?_|refine AD ?_|refine AE ?_|refine AF rfl rfl ?_|refine AG rfl rfl ?_|refine AH ?_|refine AI ?_|refine AJ ?_|refine AK ?_|refine AL ?_|refine AM ?_|refine AN ?_|refine AO ?_|refine AP ?_|refine AQ rfl ?_|refine AR ?_|refine AS ?_|refine AT rfl ?_|refine AU rfl ?_
    rw [e]
    exact ⟨rfl, rfl, hil, h1, h2⟩
end
end Am
end Go.Proofs.Ytkgplkddpigagaa
