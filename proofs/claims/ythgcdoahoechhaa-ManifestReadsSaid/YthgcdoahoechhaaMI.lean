/- Package manifest: may a list be? Package manifest: a list as bytes. Package manifest: Encode told. Package manifest: Decode told. Chapter 10's own Decode, Encode; chapter 4's reader of numbers. -/
import Derived.Test.YthgcdoahoechhaaMN
import Derived.Test.YthgcdoahoechhaaMH
set_option linter.unusedVariables false
set_option linter.unusedSimpArgs false
namespace Go.Proofs.Ythgcdoahoechhaa
namespace Am
open Go.RowKit
set_option maxRecDepth 100000
def b_hasI : BF := ⟨9, [0, 1, 4], (.seq (.reg [.mk none (.slot 2) (.mov (.mv (.const (.bool false))))]) (.seq (.reg [.mk none (.env 5) (.mov (.mv (.slot 0))), .mk none (.env 6) (.mov (.mv (.slot 1))), .mk none (.env 7) (.call 128 [(.env 5), (.env 6)]), .mk none (.env 8) (.mov (.bin .geq .no (.env 7) (.const (.int .i64 0)))), .mk none (.slot 2) (.mov (.mv (.env 8)))]) .ret)), [.slot (.slot 2)]⟩
def b_mfRight : BF := ⟨51, [0, 1, 2, 3, 4, 25, 27, 28, 29, 30, 49], (.seq (.reg [.mk none (.slot 1) (.eff (.box (.slot 0))), .mk none (.slot 2) (.mov (.mv (.const (.bool false))))]) (.seq (.seq (.reg [.mk none (.env 5) (.mov (.faddr 0 (.slot 1))), .mk none (.env 6) (.mov (.ld1 (.env 5))), .mk none (.env 7) (.mov (.lenv (.env 6))), .mk none (.env 8) (.mov (.bin .gtr .no (.env 7) (.const (.int .i64 255)))), .mk none (.env 9) (.mov (.mv (.env 8))), .mk (some ((.env 9), false)) (.env 10) (.mov (.faddr 1 (.slot 1))), .mk (some ((.env 9), false)) (.env 11) (.mov (.ld1 (.env 10))), .mk (some ((.env 9), false)) (.env 12) (.mov (.bin .lss .no (.env 11) (.const (.int .i64 0)))), .mk none (.env 13) (.mov (.pick (.env 9) (.const (.bool true)) (.env 12))), .mk none (.env 14) (.mov (.mv (.env 13))), .mk (some ((.env 14), false)) (.env 15) (.mov (.faddr 2 (.slot 1))), .mk (some ((.env 14), false)) (.env 16) (.mov (.ld1 (.env 15))), .mk (some ((.env 14), false)) (.env 17) (.mov (.bin .gtr .no (.env 16) (.const (.int .i64 16777215)))), .mk none (.env 18) (.mov (.pick (.env 14) (.const (.bool true)) (.env 17))), .mk none (.env 19) (.mov (.mv (.env 18))), .mk (some ((.env 19), false)) (.env 20) (.mov (.faddr 2 (.slot 1))), .mk (some ((.env 19), false)) (.env 21) (.mov (.ld1 (.env 20))), .mk (some ((.env 19), false)) (.env 22) (.mov (.faddr 1 (.slot 1))), .mk (some ((.env 19), false)) (.env 23) (.mov (.ld1 (.env 22))), .mk (some ((.env 19), false)) (.env 24) (.mov (.bin .leq .no (.env 21) (.env 23))), .mk none (.slot 5) (.mov (.pick (.env 19) (.const (.bool true)) (.env 24)))]) (.cond (.slot 5) (.seq (.reg [.mk none (.slot 2) (.mov (.mv (.const (.bool false))))]) .ret) .skip)) (.seq (.seq (.reg [.mk none (.env 26) (.mov (.faddr 0 (.slot 1))), .mk none (.slot 6) (.mov (.ld1 (.env 26))), .mk none (.slot 7) (.mov (.lenv (.slot 6))), .mk none (.slot 8) (.mov (.mv (.const (.int .i64 0))))]) (.block 0 (.loop (.seq (.reg [.mk none (.slot 9) (.mov (.bin .lss .no (.slot 8) (.slot 7)))]) (.seq (.cond (.slot 9) .skip (.exit 0)) (.seq (.block 1 (.seq (.reg [.mk none (.env 31) (.mov (.mv (.slot 8))), .mk none (.env 32) (.mov (.iaddr 1 (.slot 6) (.slot 8))), .mk none (.env 33) (.mov (.ld1 (.env 32))), .mk none (.slot 3) (.mov (.mv (.env 31))), .mk none (.slot 4) (.mov (.mv (.env 33)))]) (.seq (.reg [.mk none (.env 34) (.mov (.mv (.slot 4))), .mk none (.env 35) (.mov (.bin .lss .no (.env 34) (.const (.int .i64 0)))), .mk none (.env 36) (.mov (.mv (.env 35))), .mk (some ((.env 36), false)) (.env 37) (.mov (.mv (.slot 4))), .mk (some ((.env 36), false)) (.env 38) (.mov (.faddr 2 (.slot 1))), .mk (some ((.env 36), false)) (.env 39) (.mov (.ld1 (.env 38))), .mk (some ((.env 36), false)) (.env 40) (.mov (.bin .geq .no (.env 37) (.env 39))), .mk none (.env 41) (.mov (.pick (.env 36) (.const (.bool true)) (.env 40))), .mk none (.env 42) (.mov (.mv (.env 41))), .mk (some ((.env 42), false)) (.env 43) (.mov (.faddr 0 (.slot 1))), .mk (some ((.env 42), false)) (.env 44) (.mov (.ld1 (.env 43))), .mk (some ((.env 42), false)) (.env 45) (.mov (.mv (.slot 3))), .mk (some ((.env 42), false)) (.env 46) (.mov (.sl 1 (.env 44) none (some (.env 45)) none)), .mk (some ((.env 42), false)) (.env 47) (.mov (.mv (.slot 4))), .mk (some ((.env 42), false)) (.env 48) (.call 122 [(.env 46), (.env 47)]), .mk none (.slot 10) (.mov (.pick (.env 42) (.const (.bool true)) (.env 48)))]) (.cond (.slot 10) (.seq (.reg [.mk none (.slot 2) (.mov (.mv (.const (.bool false))))]) .ret) .skip)))) (.reg [.mk none (.env 50) (.mov (.bin .add .no (.slot 8) (.const (.int .i64 1)))), .mk none (.slot 8) (.mov (.mv (.env 50)))]))))))) (.seq (.reg [.mk none (.slot 2) (.mov (.mv (.const (.bool true))))]) .ret)))), [.slot (.slot 2)]⟩
section
variable {e : En} {t : List AV} {X : Type} {h : Hp X}
theorem ef_box {x : Od} {l : List AV} (hx : x.ev e t = .agg l) (hall : allOne l = true) : (Ef.box x).ev e t h = some (.ptr h.n 0, h.push (.rw l)) := by
  simp only [Ef.ev, hx]
  show (bif allOne l then some (AV.ptr h.n 0, h.push (.rw l)) else none) = _
  rw [hall]
  rfl
theorem all3 {a : AV} {j k : IntKind} {b c : Int} (ha : a.one = true) : allOne [a, .int j b, .int k c] = true := by
  unfold allOne
  cases a <;> first | (cases ha; done) | rfl
end
section
variable {X : Type} {E : Nat → Option (Ent X)}
theorem RS.cut {α : Type} {f : α → AV} {h : Hp X} {v : AV} {bs : List α} (a : RS h 1 v bs.length (bs.map f)) {lo hi : Nat} (h1 : lo ≤ hi) (h2 : hi ≤ bs.length) : ∃ v', RS h 1 v' ((bs.drop lo).take (hi - lo)).length (((bs.drop lo).take (hi - lo)).map f) ∧ (∀ g, blk v' g → blk v g) ∧ (v ≠ .semp → v' ≠ .semp) ∧
    ∀ {hh : Hp X} {e : En} {t : List AV} {x : Od} {ol oh : Option Od}, x.ev e t = v → Bnd ol e t lo 0 → Bnd oh e t hi bs.length → (Mv.sl 1 x ol oh none).ev e t hh = some v' := by
  obtain ⟨v', k1, k2, k3, k4⟩ := a.sl h1 h2
  refine ⟨v', ?_, k2, k3, k4⟩
  have e1 : ((bs.map f).drop (lo * 1)).take ((hi - lo) * 1) = ((bs.drop lo).take (hi - lo)).map f := by rw [Nat.mul_one, Nat.mul_one, ← List.map_drop, ← List.map_take]
  have e2 : hi - lo = ((bs.drop lo).take (hi - lo)).length := by rw [List.length_take, List.length_drop]; omega
  rw [e1] at k1
  rw [← e2]
  exact k1
theorem idxF_in {x : Int} : ∀ {l : List Int} {k : Nat}, 0 ≤ idxF x l k ↔ x ∈ l
  | [], k => by
    show (0 : Int) ≤ Int.negSucc 0 ↔ _
    simp
  | y :: l, k => by
    rw [idxF_cons, List.mem_cons]
    by_cases h : x = y
    · rw [if_pos h]; simp [h]
    · rw [if_neg h, idxF_in (l := l)]; simp [h]
theorem has_ok (hE : ∀ f e, E f = some e → e.plain) (hf : E 122 = some (.bc b_hasI)) (hi : E 128 = some (.bc b_idxI)) {h : Hp X} {v : AV} {l : List Int} {x : Int} (hr : RS h 1 v l.length (l.map iv)) (hlen : l.length ≤ maxLen) :
    WF (lim E) 122 [v, .int .i64 x] h fun r h' => h' = h ∧ ∃ c, r = .bool c ∧ (c = true ↔ x ∈ l) := by
  refine wf_bc hE hf rfl ?_
  simp only [b_hasI, List.map, getS]
  repeat first|(refine BG ?_;first|(refine BH ?_;first|(refine BI ?_;refine BM ?_)|(refine BJ ?_;first|refine BN ?_|refine BO ?_)|refine BP ?_)|(refine BK ?_;first|refine BS rfl rfl ?_|refine BT rfl rfl ?_|refine BU rfl ?_)|(refine BL ?_;first|refine BQ ?_)|(refine BR ?_;try simp only [setS]))|refine AA ?_|refine AC ?_|refine AD ?_|refine AE ?_|refine AF rfl rfl ?_|refine AG rfl rfl ?_|refine AH ?_|refine AI ?_|refine AJ ?_|refine AK ?_|refine AL ?_|refine AM ?_|refine AN ?_|refine AO ?_|refine AP ?_|refine AQ rfl ?_|refine AR ?_|refine AS ?_|refine AT rfl ?_|refine AU rfl ?_
  refine wr_call_e rfl ((idx_ok hE hi hr hlen).mono fun r h1 ⟨e1, e2⟩ => ?_)
  subst e1 e2
  have hx := idxF_in (x := x) (l := l) (k := 0)
  generalize idxF x l 0 = k at hx
  by_cases h0 : 0 ≤ k
  · repeat first|(refine BG ?_;first|(refine BH ?_;first|(refine BI ?_;refine BM ?_)|(refine BJ ?_;first|refine BN ?_|refine BO ?_)|refine BP ?_)|(refine BK ?_;first|refine BS rfl rfl ?_|refine BT rfl rfl ?_|refine BU rfl ?_)|(refine BL ?_;first|refine BQ ?_)|(refine BR ?_;try simp only [setS]))|refine AA ?_|refine AC ?_|refine AD ?_|refine AE ?_|refine AF rfl rfl ?_|refine AG rfl rfl ?_|refine AH ?_|refine AI ?_|refine AJ ?_|refine AK ?_|refine AL ?_|refine AM ?_|refine AN ?_|refine AO ?_|refine AP ?_|refine AQ rfl ?_|refine AR ?_|refine AS ?_|refine AT rfl ?_|refine AU rfl ?_
    exact ⟨rfl, true, rfl, Iff.intro (fun _ => hx.1 h0) (fun _ => rfl)⟩
  · repeat first|(refine BG ?_;first|(refine BH ?_;first|(refine BI ?_;refine BM ?_)|(refine BJ ?_;first|refine BN ?_|refine BO ?_)|refine BP ?_)|(refine BK ?_;first|refine BS rfl rfl ?_|refine BT rfl rfl ?_|refine BU rfl ?_)|(refine BL ?_;first|refine BQ ?_)|(refine BR ?_;try simp only [setS]))|refine AA ?_|refine AC ?_|refine AD ?_|refine AE ?_|refine AF rfl rfl ?_|refine AG rfl rfl ?_|refine AH ?_|refine AI ?_|refine AJ ?_|refine AK ?_|refine AL ?_|refine AM ?_|refine AN ?_|refine AO ?_|refine AP ?_|refine AQ rfl ?_|refine AR ?_|refine AS ?_|refine AT rfl ?_|refine AU rfl ?_
    exact ⟨rfl, false, rfl, Iff.intro (fun q => Bool.noConfusion q) (fun q => absurd (hx.2 q) h0)⟩
def LsV (tv : AV) (w n : Int) : AV := .agg [tv, .int .i64 w, .int .i64 n]
set_option maxHeartbeats 8000000 in
theorem right_ok (hE : ∀ f e, E f = some e → e.plain) (hf : E 110 = some (.bc b_mfRight)) (hh : E 122 = some (.bc b_hasI)) (hi : E 128 = some (.bc b_idxI)) {h : Hp X} {v : AV} {l : List Int} {wal next : Int} (hr : RS h 1 v l.length (l.map iv)) (hlen : l.length ≤ maxLen) :
    WF (lim E) 110 [LsV v wal next] h fun r h' => Keep NoB h h' ∧ r = .bool (mayF l wal next) := by
  refine wf_bc hE hf rfl ?_
  simp only [b_mfRight, List.map, getS]
  have hm : (maxLen : Int) = 9223372036854775807 := rfl
  unfold mayF
  rw [k_lt_eq, k_lt_eq, k_lt_eq, k_lt_eq, k_not_eq, k_not_eq, k_not_eq]
  refine AC (AD (wr_eff_s (ef_box rfl (all3 hr.one.2)) rfl ?_))
  have hg : (h.push (.rw [v, .int .i64 wal, .int .i64 next])).get h.n = some (.rw [v, .int .i64 wal, .int .i64 next]) := Hp.push_self _ _
  have hk : Keep NoB h (h.push (.rw [v, .int .i64 wal, .int .i64 next])) := Keep.push _ _ _
  have hr := hr.keep hk (fun _ _ q => q)
  generalize h.push (.rw [v, .int .i64 wal, .int .i64 next]) = h1 at hg hk hr
  generalize h.n = g at hg
  simp only [setS]
  by_cases c1 : (255 : Int) < l.length
  · repeat first|(refine BG ?_;first|(refine BH ?_;first|(refine BI ?_;refine BM ?_)|(refine BJ ?_;first|refine BN ?_|refine BO ?_)|refine BV (v_ld1 rfl hg rfl) ?_|refine BV (hr.lenv (by rfl)) ?_|refine BP ?_)|(refine BK ?_;first|refine BS rfl rfl ?_|refine BT rfl rfl ?_|refine BU rfl ?_)|(refine BL ?_;first|refine BQ ?_)|(refine BR ?_;try simp only [setS]))|refine AA ?_|refine AC ?_|refine AD ?_|refine AE ?_|refine AF rfl rfl ?_|refine AG rfl rfl ?_|refine AH ?_|refine AI ?_|refine AJ ?_|refine AK ?_|refine AL ?_|refine AM ?_|refine AN ?_|refine AO ?_|refine AP ?_|refine AQ rfl ?_|refine AR ?_|refine AS ?_|refine AT rfl ?_|refine AU rfl ?_
    refine ⟨hk, ?_⟩
    rw [show Nat.ble l.length 255 = false by cases hb : Nat.ble l.length 255 with | false => rfl | true => have := Nat.le_of_ble_eq_true hb; omega]
    rfl
  rw [ble_t (show l.length ≤ 255 by omega)]
  by_cases c2 : wal < 0
  · repeat first|(refine BG ?_;first|(refine BH ?_;first|(refine BI ?_;refine BM ?_)|(refine BJ ?_;first|refine BN ?_|refine BO ?_)|refine BV (v_ld1 rfl hg rfl) ?_|refine BV (hr.lenv (by rfl)) ?_|refine BP ?_)|(refine BK ?_;first|refine BS rfl rfl ?_|refine BT rfl rfl ?_|refine BU rfl ?_)|(refine BL ?_;first|refine BQ ?_)|(refine BR ?_;try simp only [setS]))|refine AA ?_|refine AC ?_|refine AD ?_|refine AE ?_|refine AF rfl rfl ?_|refine AG rfl rfl ?_|refine AH ?_|refine AI ?_|refine AJ ?_|refine AK ?_|refine AL ?_|refine AM ?_|refine AN ?_|refine AO ?_|refine AP ?_|refine AQ rfl ?_|refine AR ?_|refine AS ?_|refine AT rfl ?_|refine AU rfl ?_
    exact ⟨hk, by simp [c2]; rfl⟩
  by_cases c4 : 16777215 < next
  · repeat first|(refine BG ?_;first|(refine BH ?_;first|(refine BI ?_;refine BM ?_)|(refine BJ ?_;first|refine BN ?_|refine BO ?_)|refine BV (v_ld1 rfl hg rfl) ?_|refine BV (hr.lenv (by rfl)) ?_|refine BP ?_)|(refine BK ?_;first|refine BS rfl rfl ?_|refine BT rfl rfl ?_|refine BU rfl ?_)|(refine BL ?_;first|refine BQ ?_)|(refine BR ?_;try simp only [setS]))|refine AA ?_|refine AC ?_|refine AD ?_|refine AE ?_|refine AF rfl rfl ?_|refine AG rfl rfl ?_|refine AH ?_|refine AI ?_|refine AJ ?_|refine AK ?_|refine AL ?_|refine AM ?_|refine AN ?_|refine AO ?_|refine AP ?_|refine AQ rfl ?_|refine AR ?_|refine AS ?_|refine AT rfl ?_|refine AU rfl ?_
    exact ⟨hk, by simp [c2, c4]; rfl⟩
  by_cases c5 : next ≤ wal
  · repeat first|(refine BG ?_;first|(refine BH ?_;first|(refine BI ?_;refine BM ?_)|(refine BJ ?_;first|refine BN ?_|refine BO ?_)|refine BV (v_ld1 rfl hg rfl) ?_|refine BV (hr.lenv (by rfl)) ?_|refine BP ?_)|(refine BK ?_;first|refine BS rfl rfl ?_|refine BT rfl rfl ?_|refine BU rfl ?_)|(refine BL ?_;first|refine BQ ?_)|(refine BR ?_;try simp only [setS]))|refine AA ?_|refine AC ?_|refine AD ?_|refine AE ?_|refine AF rfl rfl ?_|refine AG rfl rfl ?_|refine AH ?_|refine AI ?_|refine AJ ?_|refine AK ?_|refine AL ?_|refine AM ?_|refine AN ?_|refine AO ?_|refine AP ?_|refine AQ rfl ?_|refine AR ?_|refine AS ?_|refine AT rfl ?_|refine AU rfl ?_
    exact ⟨hk, by simp [c2, c4, show ¬ wal < next by omega]; rfl⟩
  have hres : (true && (!decide (wal < 0) && (!decide (next < 0) && (!decide (16777215 < next) && (decide (wal < next) && mayG next l []))))) = mayG next l [] := by
    simp [c2, c4, show ¬ next < 0 by omega, show wal < next by omega]
  rw [hres]
  repeat first|(refine BG ?_;first|(refine BH ?_;first|(refine BI ?_;refine BM ?_)|(refine BJ ?_;first|refine BN ?_|refine BO ?_)|refine BV (v_ld1 rfl hg rfl) ?_|refine BV (hr.lenv (by rfl)) ?_|refine BP ?_)|(refine BK ?_;first|refine BS rfl rfl ?_|refine BT rfl rfl ?_|refine BU rfl ?_)|(refine BL ?_;first|refine BQ ?_)|(refine BR ?_;try simp only [setS]))|refine AA ?_|refine AC ?_|refine AD ?_|refine AE ?_|refine AF rfl rfl ?_|refine AG rfl rfl ?_|refine AH ?_|refine AI ?_|refine AJ ?_|refine AK ?_|refine AL ?_|refine AM ?_|refine AN ?_|refine AO ?_|refine AP ?_|refine AQ rfl ?_|refine AR ?_|refine AS ?_|refine AT rfl ?_|refine AU rfl ?_
  refine wb_loop (fun n t h' => h' = h1 ∧ ∃ (i : Nat) (s3 s4 s9 s10 : AV), i ≤ l.length ∧ n = l.length - i ∧ mayG next (l.drop i) (l.take i).reverse = mayG next l [] ∧ t = [LsV v wal next, .ptr g 0, .bool false, s3, s4, .bool false, v, .int .i64 l.length, .int .i64 i, s9, s10]) ?_ l.length _ _ ⟨rfl, 0, _, _, _, _, by omega, by omega, by simp, rfl⟩
  rintro n t h' ⟨rfl, i, s3, s4, s9, s10, hi', hn, hx, rfl⟩
  by_cases hlt : (i : Int) < l.length
  · obtain ⟨gg, o, ha, hl⟩ := hr.at1 (i := i) (by omega) hlt
    rw [map_at (i := i) (by omega) hlt] at hl
    have hd := drop_at (l := l) (i := i) (by omega) hlt
    have ht := take_at (l := l) (i := i) (by omega) hlt
    rw [Int.toNat_natCast] at hd ht hl
    rw [show ((i : Int) + 1).toNat = i + 1 by omega] at hd ht
    rw [hd, mayG_cons] at hx
    generalize hy : l.getD i 0 = y at hx hl hd ht
    by_cases d1 : y < 0
    · rw [if_pos (.inl d1)] at hx
      repeat first|(refine BG ?_;first|(refine BH ?_;first|(refine BI ?_;refine BM ?_)|(refine BJ ?_;first|refine BN ?_|refine BO ?_)|refine BV (v_ld1 rfl hg rfl) ?_|refine BV (hr.lenv (by rfl)) ?_|refine BV (ha rfl rfl) ?_|refine BV (hl rfl) ?_|refine BP ?_)|(refine BK ?_;first|refine BS rfl rfl ?_|refine BT rfl rfl ?_|refine BU rfl ?_)|(refine BL ?_;first|refine BQ ?_)|(refine BR ?_;try simp only [setS]))|refine AA ?_|refine AC ?_|refine AD ?_|refine AE ?_|refine AF rfl rfl ?_|refine AG rfl rfl ?_|refine AH ?_|refine AI ?_|refine AJ ?_|refine AK ?_|refine AL ?_|refine AM ?_|refine AN ?_|refine AO ?_|refine AP ?_|refine AQ rfl ?_|refine AR ?_|refine AS ?_|refine AT rfl ?_|refine AU rfl ?_
      exact ⟨hk, by rw [← hx]; rfl⟩
    by_cases d2 : next ≤ y
    · rw [if_pos (.inr (.inl d2))] at hx
      repeat first|(refine BG ?_;first|(refine BH ?_;first|(refine BI ?_;refine BM ?_)|(refine BJ ?_;first|refine BN ?_|refine BO ?_)|refine BV (v_ld1 rfl hg rfl) ?_|refine BV (hr.lenv (by rfl)) ?_|refine BV (ha rfl rfl) ?_|refine BV (hl rfl) ?_|refine BP ?_)|(refine BK ?_;first|refine BS rfl rfl ?_|refine BT rfl rfl ?_|refine BU rfl ?_)|(refine BL ?_;first|refine BQ ?_)|(refine BR ?_;try simp only [setS]))|refine AA ?_|refine AC ?_|refine AD ?_|refine AE ?_|refine AF rfl rfl ?_|refine AG rfl rfl ?_|refine AH ?_|refine AI ?_|refine AJ ?_|refine AK ?_|refine AL ?_|refine AM ?_|refine AN ?_|refine AO ?_|refine AP ?_|refine AQ rfl ?_|refine AR ?_|refine AS ?_|refine AT rfl ?_|refine AU rfl ?_
      exact ⟨hk, by rw [← hx]; rfl⟩
    obtain ⟨vc, r1, r2, r3, r4⟩ := hr.cut (lo := 0) (hi := i) (by omega) hi'
    rw [List.drop_zero, Nat.sub_zero] at r1
    repeat first|(refine BG ?_;first|(refine BH ?_;first|(refine BI ?_;refine BM ?_)|(refine BJ ?_;first|refine BN ?_|refine BO ?_)|refine BV (v_ld1 rfl hg rfl) ?_|refine BV (hr.lenv (by rfl)) ?_|refine BV (ha rfl rfl) ?_|refine BV (hl rfl) ?_|refine BV (r4 (by rfl) (.inl ⟨rfl, rfl⟩) (.inr ⟨_, _, rfl, rfl⟩)) ?_|refine BP ?_)|(refine BK ?_;first|refine BS rfl rfl ?_|refine BT rfl rfl ?_|refine BU rfl ?_)|(refine BL ?_;first|refine BQ ?_)|(refine BR ?_;try simp only [setS]))|refine AA ?_|refine AC ?_|refine AD ?_|refine AE ?_|refine AF rfl rfl ?_|refine AG rfl rfl ?_|refine AH ?_|refine AI ?_|refine AJ ?_|refine AK ?_|refine AL ?_|refine AM ?_|refine AN ?_|refine AO ?_|refine AP ?_|refine AQ rfl ?_|refine AR ?_|refine AS ?_|refine AT rfl ?_|refine AU rfl ?_
    refine wr_call_e rfl ((has_ok (x := y) hE hh hi r1 (by rw [List.length_take]; omega)).mono fun r h2 ⟨e1, c, e2, e3⟩ => ?_)
    subst e1 e2
    rw [← List.mem_reverse] at e3
    cases c with
    | true =>
      rw [if_pos (.inr (.inr (e3.1 rfl)))] at hx
      repeat first|(refine BG ?_;first|(refine BH ?_;first|(refine BI ?_;refine BM ?_)|(refine BJ ?_;first|refine BN ?_|refine BO ?_)|refine BP ?_)|(refine BK ?_;first|refine BS rfl rfl ?_|refine BT rfl rfl ?_|refine BU rfl ?_)|(refine BL ?_;first|refine BQ ?_)|(refine BR ?_;try simp only [setS]))|refine AA ?_|refine AC ?_|refine AD ?_|refine AE ?_|refine AF rfl rfl ?_|refine AG rfl rfl ?_|refine AH ?_|refine AI ?_|refine AJ ?_|refine AK ?_|refine AL ?_|refine AM ?_|refine AN ?_|refine AO ?_|refine AP ?_|refine AQ rfl ?_|refine AR ?_|refine AS ?_|refine AT rfl ?_|refine AU rfl ?_
      exact ⟨hk, by rw [← hx]; rfl⟩
    | false =>
      repeat first|(refine BG ?_;first|(refine BH ?_;first|(refine BI ?_;refine BM ?_)|(refine BJ ?_;first|refine BN ?_|refine BO ?_)|refine BP ?_)|(refine BK ?_;first|refine BS rfl rfl ?_|refine BT rfl rfl ?_|refine BU rfl ?_)|(refine BL ?_;first|refine BQ ?_)|(refine BR ?_;try simp only [setS]))|refine AA ?_|refine AC ?_|refine AD ?_|refine AE ?_|refine AF rfl rfl ?_|refine AG rfl rfl ?_|refine AH ?_|refine AI ?_|refine AJ ?_|refine AK ?_|refine AL ?_|refine AM ?_|refine AN ?_|refine AO ?_|refine AP ?_|refine AQ rfl ?_|refine AR ?_|refine AS ?_|refine AT rfl ?_|refine AU rfl ?_
      rw [show ((i : Int) + 1) = ((i + 1 : Nat) : Int) by omega]
      refine round_norm (n - 1) (by omega) ⟨rfl, i + 1, _, _, _, _, by omega, by omega, ?_, rfl⟩
      rw [ht, ← hx, if_neg]
      rintro (q | q | q)
      · exact d1 q
      · exact d2 q
      · have := e3.2 q; cases this
  · repeat first|(refine BG ?_;first|(refine BH ?_;first|(refine BI ?_;refine BM ?_)|(refine BJ ?_;first|refine BN ?_|refine BO ?_)|refine BP ?_)|(refine BK ?_;first|refine BS rfl rfl ?_|refine BT rfl rfl ?_|refine BU rfl ?_)|(refine BL ?_;first|refine BQ ?_)|(refine BR ?_;try simp only [setS]))|refine AA ?_|refine AC ?_|refine AD ?_|refine AE ?_|refine AF rfl rfl ?_|refine AG rfl rfl ?_|refine AH ?_|refine AI ?_|refine AJ ?_|refine AK ?_|refine AL ?_|refine AM ?_|refine AN ?_|refine AO ?_|refine AP ?_|refine AQ rfl ?_|refine AR ?_|refine AS ?_|refine AT rfl ?_|refine AU rfl ?_
    refine ⟨hk, ?_⟩
    have e : i = l.length := by omega
    rw [e, List.drop_length] at hx
    rw [← hx]
    rfl
end
end Am
end Go.Proofs.Ythgcdoahoechhaa
namespace Go.Proofs.Ythgcdoahoechhaa
namespace Am
open Go.RowKit
set_option maxRecDepth 100000
def b_growI : BF := ⟨27, [0, 1, 4, 6, 16], (.seq (.reg [.mk none (.slot 2) (.mov (.mv (.const .snil)))]) (.seq (.seq (.reg [.mk none (.env 5) (.mov (.mv (.slot 1))), .mk none (.slot 3) (.mov (.bin .lss .no (.env 5) (.const (.int .i64 0))))]) (.cond (.slot 3) (.reg [.mk none (.env 7) (.mov (.mkif 9 (.const (.str [99, 97, 110, 110, 111, 116, 32, 98, 101, 32, 110, 101, 103, 97, 116, 105, 118, 101])))), .mk none .none (.pan (.env 7))]) .skip)) (.seq (.seq (.reg [.mk none (.env 8) (.mov (.mv (.slot 1))), .mk none (.env 9) (.mov (.mv (.slot 0))), .mk none (.env 10) (.mov (.capv (.env 9))), .mk none (.env 11) (.mov (.mv (.slot 0))), .mk none (.env 12) (.mov (.lenv (.env 11))), .mk none (.env 13) (.mov (.bin .sub .no (.env 10) (.env 12))), .mk none (.env 14) (.mov (.bin .sub .no (.env 8) (.env 13))), .mk none (.slot 1) (.mov (.mv (.env 14)))]) (.seq (.reg [.mk none (.env 15) (.mov (.mv (.slot 1))), .mk none (.slot 4) (.mov (.bin .gtr .no (.env 15) (.const (.int .i64 0))))]) (.cond (.slot 4) (.reg [.mk none (.env 17) (.mov (.mv (.slot 0))), .mk none (.env 18) (.mov (.mv (.slot 0))), .mk none (.env 19) (.mov (.capv (.env 18))), .mk none (.env 20) (.mov (.sl 1 (.env 17) none (some (.env 19)) none)), .mk none (.env 21) (.mov (.mv (.slot 1))), .mk none (.env 22) (.eff (.appz 1 8 [(.int .i64 0)] (.env 20) (.env 21))), .mk none (.env 23) (.mov (.mv (.slot 0))), .mk none (.env 24) (.mov (.lenv (.env 23))), .mk none (.env 25) (.mov (.sl 1 (.env 22) none (some (.env 24)) none)), .mk none (.slot 0) (.mov (.mv (.env 25)))]) .skip))) (.seq (.reg [.mk none (.env 26) (.mov (.mv (.slot 0))), .mk none (.slot 2) (.mov (.mv (.env 26)))]) .ret)))), [.slot (.slot 2)]⟩
def b_concatI : BF := ⟨36, [0, 2, 3, 5, 6, 8, 9, 10, 11, 12, 20, 25, 26, 27, 28], (.seq (.reg [.mk none (.slot 1) (.mov (.mv (.const .snil)))]) (.seq (.reg [.mk none (.slot 2) (.mov (.mv (.const (.int .i64 0))))]) (.seq (.seq (.reg [.mk none (.slot 6) (.mov (.mv (.slot 0))), .mk none (.slot 7) (.mov (.lenv (.slot 6))), .mk none (.slot 8) (.mov (.mv (.const (.int .i64 0))))]) (.block 0 (.loop (.seq (.reg [.mk none (.slot 9) (.mov (.bin .lss .no (.slot 8) (.slot 7)))]) (.seq (.cond (.slot 9) .skip (.exit 0)) (.seq (.block 1 (.seq (.reg [.mk none (.env 13) (.mov (.iaddr 1 (.slot 6) (.slot 8))), .mk none (.env 14) (.mov (.ld1 (.env 13))), .mk none (.slot 3) (.mov (.mv (.env 14)))]) (.seq (.reg [.mk none (.env 15) (.mov (.mv (.slot 2))), .mk none (.env 16) (.mov (.mv (.slot 3))), .mk none (.env 17) (.mov (.lenv (.env 16))), .mk none (.env 18) (.mov (.bin .add .no (.env 15) (.env 17))), .mk none (.slot 2) (.mov (.mv (.env 18)))]) (.seq (.reg [.mk none (.env 19) (.mov (.mv (.slot 2))), .mk none (.slot 10) (.mov (.bin .lss .no (.env 19) (.const (.int .i64 0))))]) (.cond (.slot 10) (.reg [.mk none (.env 21) (.mov (.mkif 9 (.const (.str [108, 101, 110, 32, 111, 117, 116, 32, 111, 102, 32, 114, 97, 110, 103, 101])))), .mk none .none (.pan (.env 21))]) .skip))))) (.reg [.mk none (.env 22) (.mov (.bin .add .no (.slot 8) (.const (.int .i64 1)))), .mk none (.slot 8) (.mov (.mv (.env 22)))]))))))) (.seq (.reg [.mk none (.env 23) (.mov (.mv (.slot 2))), .mk none (.env 24) (.call 123 [(.const .snil), (.env 23)]), .mk none (.slot 4) (.mov (.mv (.env 24)))]) (.seq (.seq (.reg [.mk none (.slot 11) (.mov (.mv (.slot 0))), .mk none (.slot 12) (.mov (.lenv (.slot 11))), .mk none (.slot 13) (.mov (.mv (.const (.int .i64 0))))]) (.block 2 (.loop (.seq (.reg [.mk none (.slot 14) (.mov (.bin .lss .no (.slot 13) (.slot 12)))]) (.seq (.cond (.slot 14) .skip (.exit 2)) (.seq (.block 3 (.seq (.reg [.mk none (.env 29) (.mov (.iaddr 1 (.slot 11) (.slot 13))), .mk none (.env 30) (.mov (.ld1 (.env 29))), .mk none (.slot 5) (.mov (.mv (.env 30)))]) (.reg [.mk none (.env 31) (.mov (.mv (.slot 4))), .mk none (.env 32) (.mov (.mv (.slot 5))), .mk none (.env 33) (.eff (.append 1 8 (.env 31) (.env 32))), .mk none (.slot 4) (.mov (.mv (.env 33)))]))) (.reg [.mk none (.env 34) (.mov (.bin .add .no (.slot 13) (.const (.int .i64 1)))), .mk none (.slot 13) (.mov (.mv (.env 34)))]))))))) (.seq (.reg [.mk none (.env 35) (.mov (.mv (.slot 4))), .mk none (.slot 1) (.mov (.mv (.env 35)))]) .ret)))))), [.slot (.slot 1)]⟩
def b_mfEncode : BF := ⟨35, [0, 1, 2, 3, 4, 6, 9, 23, 24, 25, 26], (.seq (.reg [.mk none (.slot 1) (.eff (.box (.slot 0))), .mk none (.slot 2) (.mov (.mv (.const .snil))), .mk none (.slot 3) (.mov (.mv (.const (.int .i64 0))))]) (.seq (.seq (.reg [.mk none (.env 7) (.mov (.ldn 3 (.slot 1))), .mk none (.env 8) (.call 110 [(.env 7)]), .mk none (.slot 6) (.mov (.notb (.env 8)))]) (.cond (.slot 6) (.seq (.reg [.mk none (.slot 2) (.mov (.mv (.const .snil))), .mk none (.slot 3) (.mov (.mv (.const (.int .i64 1))))]) .ret) .skip)) (.seq (.reg [.mk none (.env 10) (.mov (.faddr 0 (.slot 1))), .mk none (.env 11) (.mov (.ld1 (.env 10))), .mk none (.env 12) (.mov (.lenv (.env 11))), .mk none (.env 13) (.mov (.conv .u8 (.env 12))), .mk none (.env 14) (.eff (.bslice 1 1 [(.int .u8 0)] [(0, 1, (.env 13))])), .mk none (.slot 4) (.mov (.mv (.env 14)))]) (.seq (.seq (.reg [.mk none (.env 15) (.mov (.faddr 0 (.slot 1))), .mk none (.env 16) (.mov (.ld1 (.env 15))), .mk none (.env 17) (.mov (.faddr 1 (.slot 1))), .mk none (.env 18) (.mov (.ld1 (.env 17))), .mk none (.env 19) (.mov (.faddr 2 (.slot 1))), .mk none (.env 20) (.mov (.ld1 (.env 19))), .mk none (.env 21) (.eff (.bslice 1 2 [(.int .i64 0)] [(0, 1, (.env 18)), (1, 1, (.env 20))])), .mk none (.env 22) (.eff (.bslice 1 2 [.snil] [(0, 1, (.env 16)), (1, 1, (.env 21))])), .mk none (.slot 7) (.call 111 [(.env 22)]), .mk none (.slot 8) (.mov (.lenv (.slot 7))), .mk none (.slot 9) (.mov (.mv (.const (.int .i64 0))))]) (.block 0 (.loop (.seq (.reg [.mk none (.slot 10) (.mov (.bin .lss .no (.slot 9) (.slot 8)))]) (.seq (.cond (.slot 10) .skip (.exit 0)) (.seq (.block 1 (.seq (.reg [.mk none (.env 27) (.mov (.iaddr 1 (.slot 7) (.slot 9))), .mk none (.env 28) (.mov (.ld1 (.env 27))), .mk none (.slot 5) (.mov (.mv (.env 28)))]) (.reg [.mk none (.env 29) (.mov (.mv (.slot 4))), .mk none (.env 30) (.mov (.mv (.slot 5))), .mk none (.env 31) (.mov (.conv .u64 (.env 30))), .mk none (.env 32) (.call 106 [(.env 29), (.env 31), (.const (.int .i64 3))]), .mk none (.slot 4) (.mov (.mv (.env 32)))]))) (.reg [.mk none (.env 33) (.mov (.bin .add .no (.slot 9) (.const (.int .i64 1)))), .mk none (.slot 9) (.mov (.mv (.env 33)))]))))))) (.seq (.reg [.mk none (.env 34) (.mov (.mv (.slot 4))), .mk none (.slot 2) (.mov (.mv (.env 34))), .mk none (.slot 3) (.mov (.mv (.const (.int .i64 0))))]) .ret))))), [.slot (.slot 2), .slot (.slot 3)]⟩
section
variable {e : En} {t : List AV} {X : Type} {h : Hp X}
theorem ef_appz {z by' k : Nat} {zero : List AV} {x n : Od} {kk : IntKind} (hx : x.ev e t = .snil) (hn : n.ev e t = .int kk (k : Int)) (h0 : 0 < k) (h1 : k * by' ≤ 140737488355328) (h2 : k ≤ maxLen) : (Ef.appz z by' zero x n).ev e t h = some (.slice z h.n 0 k none, h.push (.rw (rep zero k))) := by
  simp only [Ef.ev, hx, hn, nOf_nat]
  rw [show Nat.beq k 0 = false from nbeq (by omega), ble_t h1, ble_t h2]
  rfl
theorem ef_bs2 {x y : Od} {a b zero : AV} (hx : x.ev e t = a) (hy : y.ev e t = b) (ha : cellsOf a = some [a] ∧ a.one = true) (hb : cellsOf b = some [b] ∧ b.one = true) : (Ef.bslice 1 2 [zero] [(0, 1, x), (1, 1, y)]).ev e t h = some (.slice 1 h.n 0 2 (some 2), h.push (.rw [a, b])) := by
  have ho : allOne [a, b] = true := by
    have ha := ha.2
    have hb := hb.2
    unfold allOne
    cases a <;> first | (cases ha; done) | (cases b <;> first | (cases hb; done) | rfl)
  have hf : fillA (rep [zero] 2) [(0, 1, a), (1, 1, b)] = some [a, b] := by
    simp only [fillA, rep, ha.1, hb.1]
    rfl
  simp only [Ef.ev, List.map, hx, hy]
  rw [hf]
  show (bif allOne [a, b] && Nat.beq 2 (2 * 1) && Nat.ble 2 maxLen then some (AV.slice 1 h.n 0 2 (some 2), h.push (.rw [a, b])) else none) = _
  rw [ho]
  rfl
end
section
variable {X : Type} {E : Nat → Option (Ent X)}
theorem grow_ok (hE : ∀ f e, E f = some e → e.plain) (hf : E 123 = some (.bc b_growI)) {h : Hp X} {k : Nat} (h0 : 0 < k) (h1 : k ≤ 1000000) :
    WF (lim E) 123 [.snil, .int .i64 k] h fun r h' => Keep NoB h h' ∧ r = .slice 1 h.n 0 0 none ∧ OS h' 1 r 0 [] := by
  refine wf_bc hE hf rfl ?_
  simp only [b_growI, List.map, getS]
  have hm : (maxLen : Nat) = 9223372036854775807 := rfl
  have e1 : ((k : Int) - (0 - 0)) = k := by omega
  repeat first|(refine BG ?_;first|(refine BH ?_;first|(refine BI ?_;refine BM ?_)|(refine BJ ?_;first|refine BN ?_|refine BO ?_)|refine BP ?_)|(refine BK ?_;first|refine BS rfl rfl ?_|refine BT rfl rfl ?_|refine BU rfl ?_)|(refine BL ?_;first|refine BQ ?_)|(refine BR ?_;try simp only [setS]))|refine AA ?_|refine AC ?_|refine AD ?_|refine AE ?_|refine AF rfl rfl ?_|refine AG rfl rfl ?_|refine AH ?_|refine AI ?_|refine AJ ?_|refine AK ?_|refine AL ?_|refine AM ?_|refine AN ?_|refine AO ?_|refine AP ?_|refine AQ rfl ?_|refine AR ?_|refine AS ?_|refine AT rfl ?_|refine AU rfl ?_|refine lone_norm ?_|refine lone_ret ?_|refine lone_brk ?_|refine lone_pan ?_
  rw [e1]
  repeat first|(refine BG ?_;first|(refine BH ?_;first|(refine BI ?_;refine BM ?_)|(refine BJ ?_;first|refine BN ?_|refine BO ?_)|refine BP ?_)|(refine BK ?_;first|refine BS rfl rfl ?_|refine BT rfl rfl ?_|refine BU rfl ?_)|(refine BL ?_;first|refine BW (ef_appz rfl rfl h0 (by omega) (by omega)) ?_|refine BQ ?_)|(refine BR ?_;try simp only [setS]))|refine AA ?_|refine AC ?_|refine AD ?_|refine AE ?_|refine AF rfl rfl ?_|refine AG rfl rfl ?_|refine AH ?_|refine AI ?_|refine AJ ?_|refine AK ?_|refine AL ?_|refine AM ?_|refine AN ?_|refine AO ?_|refine AP ?_|refine AQ rfl ?_|refine AR ?_|refine AS ?_|refine AT rfl ?_|refine AU rfl ?_|refine lone_norm ?_|refine lone_ret ?_|refine lone_brk ?_|refine lone_pan ?_
  exact ⟨Keep.push _ _ _, rfl, rfl, rfl, Nat.zero_lt_one, Nat.lt_succ_self _, _, Hp.push_self _ _, by simp, by simp, trivial⟩
structure loneR (D : Dp X) (a : BC) (Q : R X → Prop) (r : R X) : Prop where
  out : match r with | .norm t h => WB D (.loop a) t h Q | r => Q r
section
variable {D : Dp X} {a : BC} {Q : R X → Prop} {t : List AV} {h : Hp X}
theorem lone_norm (H : WB D (.loop a) t h Q) : loneR D a Q (.norm t h) := ⟨H⟩
theorem lone_ret (q : Q (.ret t h)) : loneR D a Q (.ret t h) := ⟨q⟩
theorem lone_brk {k : Nat} (q : Q (.brk k t h)) : loneR D a Q (.brk k t h) := ⟨q⟩
theorem lone_pan {v : AV} (q : Q (.panic v t h)) : loneR D a Q (.panic v t h) := ⟨q⟩
theorem wb_once (H : WB D a t h (loneR D a Q)) : WB D (.loop a) t h Q := by
  obtain ⟨r, h1, h2⟩ := H.out
  cases r with
  | norm t' h' =>
    obtain ⟨r2, h5, h6⟩ := (show WB D (.loop a) t' h' Q from h2.out).out
    exact ⟨⟨r2, goes_loop h1 h5, h6⟩⟩
  | bad => exact absurd rfl h1.1
  | _ => exact ⟨⟨_, goes_loop_left (by exact True.intro) h1, h2.out⟩⟩
end
theorem concat_ok (hE : ∀ f e, E f = some e → e.plain) (hf : E 111 = some (.bc b_concatI)) (hw : E 123 = some (.bc b_growI)) {h : Hp X} {g : Nat} {tv xv : AV} {a b : Nat} {ts xs : List AV} (hgn : g < h.n) (hg : h.get g = some (.rw [tv, xv])) (ha : RS h 1 tv a ts) (hb : RS h 1 xv b xs) (h0 : 0 < b) (h1 : a + b ≤ 1000000) :
    WF (lim E) 111 [.slice 1 g 0 2 (some 2)] h fun r h' => Own1 h h' r ∧ OS h' 1 r (a + b) (ts ++ xs) := by
  refine wf_bc hE hf rfl ?_
  simp only [b_concatI, List.map, getS]
  have hm : (maxLen : Nat) = 9223372036854775807 := rfl
  repeat first|(refine BG ?_;first|(refine BH ?_;first|(refine BI ?_;refine BM ?_)|(refine BJ ?_;first|refine BN ?_|refine BO ?_)|refine BP ?_)|(refine BK ?_;first|refine BS rfl rfl ?_|refine BT rfl rfl ?_|refine BU rfl ?_)|(refine BL ?_;first|refine BQ ?_)|(refine BR ?_;try simp only [setS]))|refine AA ?_|refine AC ?_|refine AD ?_|refine AE ?_|refine AF rfl rfl ?_|refine AG rfl rfl ?_|refine AH ?_|refine AI ?_|refine AJ ?_|refine AK ?_|refine AL ?_|refine AM ?_|refine AN ?_|refine AO ?_|refine AP ?_|refine AQ rfl ?_|refine AR ?_|refine AS ?_|refine AT rfl ?_|refine AU rfl ?_|refine lone_norm ?_|refine lone_ret ?_|refine lone_brk ?_|refine lone_pan ?_
  refine wb_once ?_
  repeat first|(refine BG ?_;first|(refine BH ?_;first|(refine BI ?_;refine BM ?_)|(refine BJ ?_;first|refine BN ?_|refine BO ?_)|refine BV (v_ld1 rfl hg rfl) ?_|refine BV (ha.lenv (by rfl)) ?_|refine BV (hb.lenv (by rfl)) ?_|refine BP ?_)|(refine BK ?_;first|refine BS rfl rfl ?_|refine BT rfl rfl ?_|refine BU rfl ?_)|(refine BL ?_;first|refine BQ ?_)|(refine BR ?_;try simp only [setS]))|refine AA ?_|refine AC ?_|refine AD ?_|refine AE ?_|refine AF rfl rfl ?_|refine AG rfl rfl ?_|refine AH ?_|refine AI ?_|refine AJ ?_|refine AK ?_|refine AL ?_|refine AM ?_|refine AN ?_|refine AO ?_|refine AP ?_|refine AQ rfl ?_|refine AR ?_|refine AS ?_|refine AT rfl ?_|refine AU rfl ?_|refine lone_norm ?_|refine lone_ret ?_|refine lone_brk ?_|refine lone_pan ?_
  refine wb_once ?_
  repeat first|(refine BG ?_;first|(refine BH ?_;first|(refine BI ?_;refine BM ?_)|(refine BJ ?_;first|refine BN ?_|refine BO ?_)|refine BV (v_ld1 rfl hg rfl) ?_|refine BV (ha.lenv (by rfl)) ?_|refine BV (hb.lenv (by rfl)) ?_|refine BP ?_)|(refine BK ?_;first|refine BS rfl rfl ?_|refine BT rfl rfl ?_|refine BU rfl ?_)|(refine BL ?_;first|refine BQ ?_)|(refine BR ?_;try simp only [setS]))|refine AA ?_|refine AC ?_|refine AD ?_|refine AE ?_|refine AF rfl rfl ?_|refine AG rfl rfl ?_|refine AH ?_|refine AI ?_|refine AJ ?_|refine AK ?_|refine AL ?_|refine AM ?_|refine AN ?_|refine AO ?_|refine AP ?_|refine AQ rfl ?_|refine AR ?_|refine AS ?_|refine AT rfl ?_|refine AU rfl ?_|refine lone_norm ?_|refine lone_ret ?_|refine lone_brk ?_|refine lone_pan ?_
  refine wb_once ?_
  repeat first|(refine BG ?_;first|(refine BH ?_;first|(refine BI ?_;refine BM ?_)|(refine BJ ?_;first|refine BN ?_|refine BO ?_)|refine BP ?_)|(refine BK ?_;first|refine BS rfl rfl ?_|refine BT rfl rfl ?_|refine BU rfl ?_)|(refine BL ?_;first|refine BQ ?_)|(refine BR ?_;try simp only [setS]))|refine AA ?_|refine AC ?_|refine AD ?_|refine AE ?_|refine AF rfl rfl ?_|refine AG rfl rfl ?_|refine AH ?_|refine AI ?_|refine AJ ?_|refine AK ?_|refine AL ?_|refine AM ?_|refine AN ?_|refine AO ?_|refine AP ?_|refine AQ rfl ?_|refine AR ?_|refine AS ?_|refine AT rfl ?_|refine AU rfl ?_|refine lone_norm ?_|refine lone_ret ?_|refine lone_brk ?_|refine lone_pan ?_
  refine wr_call_e rfl ?_
  rw [show (0 + (a : Int) + (b : Int)) = ((a + b : Nat) : Int) by omega]
  refine (grow_ok hE hw (k := a + b) (by omega) h1).mono fun r h2 ⟨k1, e1, o1⟩ => ?_
  have hg2 : h2.get g = some (.rw [tv, xv]) := by rw [k1.get g hgn (fun q => q)]; exact hg
  repeat first|(refine BG ?_;first|(refine BH ?_;first|(refine BI ?_;refine BM ?_)|(refine BJ ?_;first|refine BN ?_|refine BO ?_)|refine BP ?_)|(refine BK ?_;first|refine BS rfl rfl ?_|refine BT rfl rfl ?_|refine BU rfl ?_)|(refine BL ?_;first|refine BQ ?_)|(refine BR ?_;try simp only [setS]))|refine AA ?_|refine AC ?_|refine AD ?_|refine AE ?_|refine AF rfl rfl ?_|refine AG rfl rfl ?_|refine AH ?_|refine AI ?_|refine AJ ?_|refine AK ?_|refine AL ?_|refine AM ?_|refine AN ?_|refine AO ?_|refine AP ?_|refine AQ rfl ?_|refine AR ?_|refine AS ?_|refine AT rfl ?_|refine AU rfl ?_|refine lone_norm ?_|refine lone_ret ?_|refine lone_brk ?_|refine lone_pan ?_
  refine wb_once ?_
  repeat first|(refine BG ?_;first|(refine BH ?_;first|(refine BI ?_;refine BM ?_)|(refine BJ ?_;first|refine BN ?_|refine BO ?_)|refine BV (v_ld1 rfl hg2 rfl) ?_|refine BP ?_)|(refine BK ?_;first|refine BS rfl rfl ?_|refine BT rfl rfl ?_|refine BU rfl ?_)|(refine BL ?_;first|refine BQ ?_)|(refine BR ?_;try simp only [setS]))|refine AA ?_|refine AC ?_|refine AD ?_|refine AE ?_|refine AF rfl rfl ?_|refine AG rfl rfl ?_|refine AH ?_|refine AI ?_|refine AJ ?_|refine AK ?_|refine AL ?_|refine AM ?_|refine AN ?_|refine AO ?_|refine AP ?_|refine AQ rfl ?_|refine AR ?_|refine AS ?_|refine AT rfl ?_|refine AU rfl ?_|refine lone_norm ?_|refine lone_ret ?_|refine lone_brk ?_|refine lone_pan ?_
  refine wr_app_e rfl rfl o1 Nat.zero_lt_one (ha.keep k1 (fun _ _ q => q)) (by omega) (by omega) fun r2 h3 o2 k2 b2 => ?_
  have hgr : ∀ k, blk r k → k = h.n := by rw [e1]; exact fun k q => q
  have k2' : Keep NoB h h3 := k1.trans k2 (fun k hk q => by have := hgr k q; omega)
  have hg3 : h3.get g = some (.rw [tv, xv]) := by rw [k2'.get g hgn (fun q => q)]; exact hg
  repeat first|(refine BG ?_;first|(refine BH ?_;first|(refine BI ?_;refine BM ?_)|(refine BJ ?_;first|refine BN ?_|refine BO ?_)|refine BP ?_)|(refine BK ?_;first|refine BS rfl rfl ?_|refine BT rfl rfl ?_|refine BU rfl ?_)|(refine BL ?_;first|refine BQ ?_)|(refine BR ?_;try simp only [setS]))|refine AA ?_|refine AC ?_|refine AD ?_|refine AE ?_|refine AF rfl rfl ?_|refine AG rfl rfl ?_|refine AH ?_|refine AI ?_|refine AJ ?_|refine AK ?_|refine AL ?_|refine AM ?_|refine AN ?_|refine AO ?_|refine AP ?_|refine AQ rfl ?_|refine AR ?_|refine AS ?_|refine AT rfl ?_|refine AU rfl ?_|refine lone_norm ?_|refine lone_ret ?_|refine lone_brk ?_|refine lone_pan ?_
  refine wb_once ?_
  repeat first|(refine BG ?_;first|(refine BH ?_;first|(refine BI ?_;refine BM ?_)|(refine BJ ?_;first|refine BN ?_|refine BO ?_)|refine BV (v_ld1 rfl hg3 rfl) ?_|refine BP ?_)|(refine BK ?_;first|refine BS rfl rfl ?_|refine BT rfl rfl ?_|refine BU rfl ?_)|(refine BL ?_;first|refine BQ ?_)|(refine BR ?_;try simp only [setS]))|refine AA ?_|refine AC ?_|refine AD ?_|refine AE ?_|refine AF rfl rfl ?_|refine AG rfl rfl ?_|refine AH ?_|refine AI ?_|refine AJ ?_|refine AK ?_|refine AL ?_|refine AM ?_|refine AN ?_|refine AO ?_|refine AP ?_|refine AQ rfl ?_|refine AR ?_|refine AS ?_|refine AT rfl ?_|refine AU rfl ?_|refine lone_norm ?_|refine lone_ret ?_|refine lone_brk ?_|refine lone_pan ?_
  refine wr_app_e rfl rfl o2 Nat.zero_lt_one (hb.keep k2' (fun _ _ q => q)) (by omega) (by omega) fun r3 h4 o3 k3 b3 => ?_
  have hb2 : ∀ k, blk r2 k → h.n ≤ k := fun k q => by
    rcases b2 k q with q | q
    · have := hgr k q; omega
    · have := k1.n; omega
  repeat first|(refine BG ?_;first|(refine BH ?_;first|(refine BI ?_;refine BM ?_)|(refine BJ ?_;first|refine BN ?_|refine BO ?_)|refine BP ?_)|(refine BK ?_;first|refine BS rfl rfl ?_|refine BT rfl rfl ?_|refine BU rfl ?_)|(refine BL ?_;first|refine BQ ?_)|(refine BR ?_;try simp only [setS]))|refine AA ?_|refine AC ?_|refine AD ?_|refine AE ?_|refine AF rfl rfl ?_|refine AG rfl rfl ?_|refine AH ?_|refine AI ?_|refine AJ ?_|refine AK ?_|refine AL ?_|refine AM ?_|refine AN ?_|refine AO ?_|refine AP ?_|refine AQ rfl ?_|refine AR ?_|refine AS ?_|refine AT rfl ?_|refine AU rfl ?_|refine lone_norm ?_|refine lone_ret ?_|refine lone_brk ?_|refine lone_pan ?_
  refine wb_once ?_
  repeat first|(refine BG ?_;first|(refine BH ?_;first|(refine BI ?_;refine BM ?_)|(refine BJ ?_;first|refine BN ?_|refine BO ?_)|refine BP ?_)|(refine BK ?_;first|refine BS rfl rfl ?_|refine BT rfl rfl ?_|refine BU rfl ?_)|(refine BL ?_;first|refine BQ ?_)|(refine BR ?_;try simp only [setS]))|refine AA ?_|refine AC ?_|refine AD ?_|refine AE ?_|refine AF rfl rfl ?_|refine AG rfl rfl ?_|refine AH ?_|refine AI ?_|refine AJ ?_|refine AK ?_|refine AL ?_|refine AM ?_|refine AN ?_|refine AO ?_|refine AP ?_|refine AQ rfl ?_|refine AR ?_|refine AS ?_|refine AT rfl ?_|refine AU rfl ?_|refine lone_norm ?_|refine lone_ret ?_|refine lone_brk ?_|refine lone_pan ?_
  refine ⟨⟨k2'.trans k3 (fun k hk q => by have := hb2 k q; omega), fun k q => ?_⟩, ?_⟩
  · rcases b3 k q with q | q
    · exact hb2 k q
    · have := k2'.n; omega
  · rw [Nat.zero_add, List.nil_append] at o3
    exact o3
end
end Am
end Go.Proofs.Ythgcdoahoechhaa
namespace Go.Proofs.Ythgcdoahoechhaa
namespace Am
open Go.RowKit
set_option maxRecDepth 100000
theorem mayG_iff {next : Int} : ∀ {l seen : List Int}, mayG next l seen = true ↔ (∀ x ∈ l, 0 ≤ x ∧ x < next ∧ x ∉ seen) ∧ l.Nodup
  | [], seen => by
    show (true = true) ↔ _
    simp
  | y :: l, seen => by
    rw [mayG_cons]
    by_cases h : y < 0 ∨ next ≤ y ∨ y ∈ seen
    · rw [if_pos h]
      constructor
      · intro q; cases q
      · rintro ⟨q, _⟩
        have := q y (List.mem_cons_self ..)
        rcases h with h | h | h
        · omega
        · omega
        · exact absurd h this.2.2
    · rw [if_neg h, mayG_iff (l := l), List.nodup_cons]
      have h1 : ¬ y < 0 := fun q => h (.inl q)
      have h2 : ¬ next ≤ y := fun q => h (.inr (.inl q))
      have h3 : y ∉ seen := fun q => h (.inr (.inr q))
      constructor
      · rintro ⟨q1, q2⟩
        refine ⟨fun x hx => ?_, fun hy => ?_, q2⟩
        · rcases List.mem_cons.1 hx with rfl | hx
          · exact ⟨by omega, by omega, h3⟩
          · have := q1 x hx
            exact ⟨this.1, this.2.1, fun q => this.2.2 (List.mem_cons_of_mem _ q)⟩
        · exact (q1 y hy).2.2 (List.mem_cons_self ..)
      · rintro ⟨q1, q2, q3⟩
        refine ⟨fun x hx => ?_, q3⟩
        have := q1 x (List.mem_cons_of_mem _ hx)
        refine ⟨this.1, this.2.1, fun q => ?_⟩
        rcases List.mem_cons.1 q with rfl | q
        · exact q2 hx
        · exact this.2.2 q
structure MayP (l : List Int) (w n : Int) : Prop where
  len : l.length ≤ 255
  w0 : 0 ≤ w
  wn : w < n
  top : n ≤ 16777215
  all : ∀ x ∈ l, 0 ≤ x ∧ x < n
  nd : l.Nodup
theorem mayF_iff {l : List Int} {w n : Int} : mayF l w n = true ↔ MayP l w n := by
  unfold mayF
  rw [k_lt_eq, k_lt_eq, k_lt_eq, k_lt_eq, k_not_eq, k_not_eq, k_not_eq]
  simp only [Bool.and_eq_true, Bool.not_eq_true', decide_eq_false_iff_not, decide_eq_true_eq]
  constructor
  · rintro ⟨h1, h2, h3, h4, h5, h6⟩
    obtain ⟨g1, g2⟩ := mayG_iff.1 h6
    exact ⟨Nat.le_of_ble_eq_true h1, by omega, h5, by omega, fun x hx => ⟨(g1 x hx).1, (g1 x hx).2.1⟩, g2⟩
  · rintro ⟨h1, h2, h3, h4, h5, h6⟩
    exact ⟨ble_t h1, by omega, by omega, by omega, h3, mayG_iff.2 ⟨fun x hx => ⟨(h5 x hx).1, (h5 x hx).2, by simp⟩, h6⟩⟩
def encB (m : Nat) : Nat → List UInt8
  | 0 => []
  | k + 1 => UInt8.ofNat (m / 2 ^ (8 * k)) :: encB m k
theorem encB_len (m : Nat) : ∀ k, (encB m k).length = k
  | 0 => rfl
  | k + 1 => by simp [encB, encB_len m k]
theorem wr_u8 (n : Nat) : wr .u8 (n : Int) = ((UInt8.ofNat n).toNat : Int) := by
  have e : ((UInt8.ofNat n).toNat : Int) = ((n % 256 : Nat) : Int) := by rw [UInt8.toNat_ofNat']
  rw [e]
  simp only [wr, IntKind.wrap, IntKind.signed, IntKind.bits]
  simp
  try omega
theorem encK_map (m : Nat) : ∀ k, encK m k = (encB m k).map ub
  | 0 => rfl
  | k + 1 => by
    rw [encK_succ, encK_map m k, wr_u8]
    rfl
def encI (x : Int) : List UInt8 := encB x.toNat 3
def encM (l : List Int) (w n : Int) : List UInt8 := UInt8.ofNat l.length :: (l ++ [w, n]).flatMap encI
theorem flat_len : ∀ l : List Int, (l.flatMap encI).length = 3 * l.length
  | [] => rfl
  | x :: l => by rw [List.flatMap_cons, List.length_append, flat_len l, List.length_cons, encI, encB_len]; omega
theorem encM_len (l : List Int) (w n : Int) : (encM l w n).length = 1 + 3 * (l.length + 2) := by
  rw [encM, List.length_cons, flat_len, List.length_append]
  simp
  omega
theorem flat_take {l : List Int} {i : Nat} (hi : i < l.length) : (l.take (i + 1)).flatMap encI = (l.take i).flatMap encI ++ encI (l.getD i 0) := by
  rw [List.take_succ_eq_append_getElem hi, List.flatMap_append, List.getD_eq_getElem?_getD, List.getElem?_eq_getElem hi]
  simp
section
variable {e : En} {t : List AV} {X : Type} {h : Hp X}
theorem v_conv_u8 {x : Od} {k : IntKind} {a : Nat} (hx : x.ev e t = .int k (a : Int)) : (Mv.conv .u8 x).ev e t h = some (ub (UInt8.ofNat a)) := by
  simp only [Mv.ev, hx]
  show some (AV.int .u8 (wr .u8 (a : Int))) = _
  rw [wr_u8]
  rfl
theorem ef_bs1u {x : Od} {b : UInt8} {zero : AV} (hx : x.ev e t = ub b) : (Ef.bslice 1 1 [zero] [(0, 1, x)]).ev e t h = some (.slice 1 h.n 0 1 (some 1), h.push (.rw ([b].map ub))) := ef_bs1 hx
theorem os_push1 {c : AV} : OS (h.push (.rw [c])) 1 (.slice 1 h.n 0 1 (some 1)) 1 [c] :=
  ⟨rfl, rfl, Nat.zero_lt_one, Nat.lt_succ_self _, [c], Hp.push_self _ _, by simp, by simp, by simp⟩
end
section
variable {X : Type} {E : Nat → Option (Ent X)}
theorem iv_one (n : Int) : cellsOf (AV.int .i64 n) = some [AV.int .i64 n] ∧ (AV.int .i64 n).one = true := ⟨rfl, rfl⟩
structure MfE (E : Nat → Option (Ent X)) : Prop where
  right : E 110 = some (.bc b_mfRight)
  has : E 122 = some (.bc b_hasI)
  idx : E 128 = some (.bc b_idxI)
  concat : E 111 = some (.bc b_concatI)
  grow : E 123 = some (.bc b_growI)
  put : E 106 = some (.bc b_octPut)
  clone : E 85 = some (.bc b_clone)
  encode : E 87 = some (.bc b_mfEncode)
theorem encode_no (hE : ∀ f e, E f = some e → e.plain) (T : MfE E) {h : Hp X} {v : AV} {l : List Int} {wal next : Int} (hr : RS h 1 v l.length (l.map iv)) (hlen : l.length ≤ maxLen) (hm : mayF l wal next = false) :
    WF (lim E) 87 [LsV v wal next] h fun r h' => Keep NoB h h' ∧ r = .tup [.snil, .int .i64 1] := by
  refine wf_bc hE T.encode rfl ?_
  simp only [b_mfEncode, List.map, getS]
  refine AC (AD (wr_eff_s (ef_box rfl (all3 hr.one.2)) rfl ?_))
  have hg : (h.push (.rw [v, .int .i64 wal, .int .i64 next])).get h.n = some (.rw [v, .int .i64 wal, .int .i64 next]) := Hp.push_self _ _
  have hk : Keep NoB h (h.push (.rw [v, .int .i64 wal, .int .i64 next])) := Keep.push _ _ _
  have hr := hr.keep hk (fun _ _ q => q)
  generalize h.push (.rw [v, .int .i64 wal, .int .i64 next]) = h1 at hg hk hr
  generalize h.n = g at hg
  simp only [setS]
  repeat first|(refine BG ?_;first|(refine BH ?_;first|(refine BI ?_;refine BM ?_)|(refine BJ ?_;first|refine BN ?_|refine BO ?_)|refine BV (v_ldn rfl hg (Nat.le_refl _)) ?_|refine BP ?_)|(refine BK ?_;first|refine BS rfl rfl ?_|refine BT rfl rfl ?_|refine BU rfl ?_)|(refine BL ?_;first|refine BQ ?_)|(refine BR ?_;try simp only [setS]))|refine AA ?_|refine AC ?_|refine AD ?_|refine AE ?_|refine AF rfl rfl ?_|refine AG rfl rfl ?_|refine AH ?_|refine AI ?_|refine AJ ?_|refine AK ?_|refine AL ?_|refine AM ?_|refine AN ?_|refine AO ?_|refine AP ?_|refine AQ rfl ?_|refine AR ?_|refine AS ?_|refine AT rfl ?_|refine AU rfl ?_
  refine wr_call_e rfl ((right_ok hE T.right T.has T.idx hr hlen).mono fun r h2 ⟨k2, e2⟩ => ?_)
  subst e2
  rw [hm]
  repeat first|(refine BG ?_;first|(refine BH ?_;first|(refine BI ?_;refine BM ?_)|(refine BJ ?_;first|refine BN ?_|refine BO ?_)|refine BP ?_)|(refine BK ?_;first|refine BS rfl rfl ?_|refine BT rfl rfl ?_|refine BU rfl ?_)|(refine BL ?_;first|refine BQ ?_)|(refine BR ?_;try simp only [setS]))|refine AA ?_|refine AC ?_|refine AD ?_|refine AE ?_|refine AF rfl rfl ?_|refine AG rfl rfl ?_|refine AH ?_|refine AI ?_|refine AJ ?_|refine AK ?_|refine AL ?_|refine AM ?_|refine AN ?_|refine AO ?_|refine AP ?_|refine AQ rfl ?_|refine AR ?_|refine AS ?_|refine AT rfl ?_|refine AU rfl ?_
  exact ⟨hk.trans k2 (fun _ _ q => q), rfl⟩
set_option maxHeartbeats 4000000 in
theorem encode_ok (hE : ∀ f e, E f = some e → e.plain) (T : MfE E) {h : Hp X} {v : AV} {l : List Int} {wal next : Int} (hr : RS h 1 v l.length (l.map iv)) (hm : MayP l wal next) :
    WF (lim E) 87 [LsV v wal next] h fun r h' => ∃ o, r = .tup [o, .int .i64 0] ∧ Own1 h h' o ∧ OS h' 1 o (encM l wal next).length ((encM l wal next).map ub) := by
  refine wf_bc hE T.encode rfl ?_
  simp only [b_mfEncode, List.map, getS]
  have hlen := hm.len
  have hmx : (maxLen : Nat) = 9223372036854775807 := rfl
  refine AC (AD (wr_eff_s (ef_box rfl (all3 hr.one.2)) rfl ?_))
  have hg : (h.push (.rw [v, .int .i64 wal, .int .i64 next])).get h.n = some (.rw [v, .int .i64 wal, .int .i64 next]) := Hp.push_self _ _
  have hk : Keep NoB h (h.push (.rw [v, .int .i64 wal, .int .i64 next])) := Keep.push _ _ _
  have hr := hr.keep hk (fun _ _ q => q)
  have hgn : h.n < (h.push (.rw [v, .int .i64 wal, .int .i64 next])).n := Nat.lt_succ_self _
  generalize h.push (.rw [v, .int .i64 wal, .int .i64 next]) = h1 at hg hk hr hgn
  generalize hgg : h.n = g at hg hgn
  simp only [setS]
  repeat first|(refine BG ?_;first|(refine BH ?_;first|(refine BI ?_;refine BM ?_)|(refine BJ ?_;first|refine BN ?_|refine BO ?_)|refine BV (v_ldn rfl hg (Nat.le_refl _)) ?_|refine BP ?_)|(refine BK ?_;first|refine BS rfl rfl ?_|refine BT rfl rfl ?_|refine BU rfl ?_)|(refine BL ?_;first|refine BQ ?_)|(refine BR ?_;try simp only [setS]))|refine AA ?_|refine AC ?_|refine AD ?_|refine AE ?_|refine AF rfl rfl ?_|refine AG rfl rfl ?_|refine AH ?_|refine AI ?_|refine AJ ?_|refine AK ?_|refine AL ?_|refine AM ?_|refine AN ?_|refine AO ?_|refine AP ?_|refine AQ rfl ?_|refine AR ?_|refine AS ?_|refine AT rfl ?_|refine AU rfl ?_
  refine wr_call_e rfl ((right_ok hE T.right T.has T.idx hr (by omega)).mono fun r h2 ⟨k2, e2⟩ => ?_)
  subst e2
  rw [mayF_iff.2 hm]
  have hr := hr.keep k2 (fun _ _ q => q)
  have hg2 : h2.get g = some (.rw [v, .int .i64 wal, .int .i64 next]) := by rw [k2.get g hgn (fun q => q)]; exact hg
  have n2 := k2.n
  repeat first|(refine BG ?_;first|(refine BH ?_;first|(refine BI ?_;refine BM ?_)|(refine BJ ?_;first|refine BN ?_|refine BO ?_)|refine BV (v_ld1 rfl hg2 rfl) ?_|refine BV (hr.lenv (by rfl)) ?_|refine BV (v_conv_u8 rfl) ?_|refine BP ?_)|(refine BK ?_;first|refine BS rfl rfl ?_|refine BT rfl rfl ?_|refine BU rfl ?_)|(refine BL ?_;first|refine BW (ef_bs1u rfl) ?_|refine BQ ?_)|(refine BR ?_;try simp only [setS]))|refine AA ?_|refine AC ?_|refine AD ?_|refine AE ?_|refine AF rfl rfl ?_|refine AG rfl rfl ?_|refine AH ?_|refine AI ?_|refine AJ ?_|refine AK ?_|refine AL ?_|refine AM ?_|refine AN ?_|refine AO ?_|refine AP ?_|refine AQ rfl ?_|refine AR ?_|refine AS ?_|refine AT rfl ?_|refine AU rfl ?_
  obtain ⟨h3, hh3⟩ : ∃ h3 : Hp X, h3 = h2.push (.rw ([UInt8.ofNat l.length].map ub)) := ⟨_, rfl⟩
  have k3 : Keep NoB h2 h3 := by rw [hh3]; exact Keep.push _ _ _
  have n3 : h3.n = h2.n + 1 := by rw [hh3]; rfl
  have o3 : OS h3 1 (.slice 1 h2.n 0 1 (some 1)) 1 ([UInt8.ofNat l.length].map ub) := by rw [hh3]; exact os_push1
  have hg3 : h3.get g = some (.rw [v, .int .i64 wal, .int .i64 next]) := by rw [k3.get g (by omega) (fun q => q)]; exact hg2
  have hr := hr.keep k3 (fun _ _ q => q)
  refine wr_heap hh3.symm ?_
  repeat first|(refine BG ?_;first|(refine BH ?_;first|(refine BI ?_;refine BM ?_)|(refine BJ ?_;first|refine BN ?_|refine BO ?_)|refine BV (v_ld1 rfl hg3 rfl) ?_|refine BP ?_)|(refine BK ?_;first|refine BS rfl rfl ?_|refine BT rfl rfl ?_|refine BU rfl ?_)|(refine BL ?_;first|refine BW (ef_bs2 rfl rfl (iv_one _) (iv_one _)) ?_|refine BQ ?_)|(refine BR ?_;try simp only [setS]))|refine AA ?_|refine AC ?_|refine AD ?_|refine AE ?_|refine AF rfl rfl ?_|refine AG rfl rfl ?_|refine AH ?_|refine AI ?_|refine AJ ?_|refine AK ?_|refine AL ?_|refine AM ?_|refine AN ?_|refine AO ?_|refine AP ?_|refine AQ rfl ?_|refine AR ?_|refine AS ?_|refine AT rfl ?_|refine AU rfl ?_
  obtain ⟨h4, hh4⟩ : ∃ h4 : Hp X, h4 = h3.push (.rw [.int .i64 wal, .int .i64 next]) := ⟨_, rfl⟩
  have k4 : Keep NoB h3 h4 := by rw [hh4]; exact Keep.push _ _ _
  have n4 : h4.n = h3.n + 1 := by rw [hh4]; rfl
  have x4 : RS h4 1 (.slice 1 h3.n 0 2 (some 2)) 2 [.int .i64 wal, .int .i64 next] := by rw [hh4]; exact rs_push rfl
  have hr := hr.keep k4 (fun _ _ q => q)
  refine wr_heap hh4.symm ?_
  repeat first|(refine BG ?_;first|(refine BH ?_;first|(refine BI ?_;refine BM ?_)|(refine BJ ?_;first|refine BN ?_|refine BO ?_)|refine BP ?_)|(refine BK ?_;first|refine BS rfl rfl ?_|refine BT rfl rfl ?_|refine BU rfl ?_)|(refine BL ?_;first|refine BW (ef_bs2 rfl rfl hr.one x4.one) ?_|refine BQ ?_)|(refine BR ?_;try simp only [setS]))|refine AA ?_|refine AC ?_|refine AD ?_|refine AE ?_|refine AF rfl rfl ?_|refine AG rfl rfl ?_|refine AH ?_|refine AI ?_|refine AJ ?_|refine AK ?_|refine AL ?_|refine AM ?_|refine AN ?_|refine AO ?_|refine AP ?_|refine AQ rfl ?_|refine AR ?_|refine AS ?_|refine AT rfl ?_|refine AU rfl ?_
  obtain ⟨h5, hh5⟩ : ∃ h5 : Hp X, h5 = h4.push (.rw [v, .slice 1 h3.n 0 2 (some 2)]) := ⟨_, rfl⟩
  have k5 : Keep NoB h4 h5 := by rw [hh5]; exact Keep.push _ _ _
  have g5 : h5.get h4.n = some (.rw [v, .slice 1 h3.n 0 2 (some 2)]) := by rw [hh5]; exact Hp.push_self _ _
  have n5 : h5.n = h4.n + 1 := by rw [hh5]; rfl
  refine wr_heap hh5.symm ?_
  refine wr_call_s rfl ((concat_ok hE T.concat T.grow (by omega) g5 (hr.keep k5 (fun _ _ q => q)) (x4.keep k5 (fun _ _ q => q)) (by omega) (by omega)).mono fun cs h6 ⟨⟨k6, b6⟩, o6⟩ => ?_)
  have o6' : OS h6 1 cs (l ++ [wal, next]).length ((l ++ [wal, next]).map iv) := by
    rw [List.length_append, List.map_append]
    exact o6
  have hall : ∀ x ∈ l ++ [wal, next], 0 ≤ x ∧ x ≤ 16777215 := by
    intro x hx
    have := hm.w0; have := hm.wn; have := hm.top
    rcases List.mem_append.1 hx with hx | hx
    · have := hm.all x hx; omega
    · simp at hx; omega
  have hl2 : (l ++ [wal, next]).length = l.length + 2 := by simp
  have hfin : (encM l wal next) = UInt8.ofNat l.length :: (l ++ [wal, next]).flatMap encI := rfl
  generalize l ++ [wal, next] = L at o6' hall hl2 hfin
  have k26 : Keep NoB h2 h6 := ((k3.trans k4 (fun _ _ q => q)).trans k5 (fun _ _ q => q)).trans k6 (fun _ _ q => q)
  have o36 := ((o3.keep k4 (fun _ _ q => q)).keep k5 (fun _ _ q => q)).keep k6 (fun _ _ q => q)
  repeat first|(refine BG ?_;first|(refine BH ?_;first|(refine BI ?_;refine BM ?_)|(refine BJ ?_;first|refine BN ?_|refine BO ?_)|refine BV (o6'.rs.lenv (by rfl)) ?_|refine BP ?_)|(refine BK ?_;first|refine BS rfl rfl ?_|refine BT rfl rfl ?_|refine BU rfl ?_)|(refine BL ?_;first|refine BQ ?_)|(refine BR ?_;try simp only [setS]))|refine AA ?_|refine AC ?_|refine AD ?_|refine AE ?_|refine AF rfl rfl ?_|refine AG rfl rfl ?_|refine AH ?_|refine AI ?_|refine AJ ?_|refine AK ?_|refine AL ?_|refine AM ?_|refine AN ?_|refine AO ?_|refine AP ?_|refine AQ rfl ?_|refine AR ?_|refine AS ?_|refine AT rfl ?_|refine AU rfl ?_
  refine wb_loop (fun n t h' => ∃ (i : Nat) (bv s5 s10 : AV), i ≤ L.length ∧ n = L.length - i ∧ Keep NoB h2 h' ∧ OS h' 1 cs L.length (L.map iv) ∧ (∀ k, blk bv k → h2.n ≤ k ∧ ¬ blk cs k) ∧ OS h' 1 bv (1 + 3 * i) ((UInt8.ofNat l.length :: (L.take i).flatMap encI).map ub) ∧ t = [LsV v wal next, .ptr g 0, .snil, .int .i64 0, bv, s5, .bool false, cs, .int .i64 L.length, .int .i64 i, s10]) ?_ L.length _ _
    ⟨0, _, _, _, by omega, by omega, k26, o6', ?_, o36, rfl⟩
  case refine_2 =>
    intro k q
    have q : k = h2.n := q
    refine ⟨by omega, fun q2 => ?_⟩
    have := b6 k q2
    omega
  rintro n t h' ⟨i, bv, s5, s10, hi, hn, hk', oc, hb, ob, rfl⟩
  by_cases hlt : (i : Int) < L.length
  · obtain ⟨gg, o, ha, hl⟩ := oc.rs.at1 (i := i) (by omega) hlt
    rw [map_at (i := i) (by omega) hlt] at hl
    rw [Int.toNat_natCast] at hl
    have hft := flat_take (l := L) (i := i) (by omega)
    have hy := hall (L.getD i 0) (by rw [List.getD_eq_getElem?_getD, List.getElem?_eq_getElem (by omega)]; exact List.getElem_mem _)
    generalize L.getD i 0 = y at hl hft hy
    obtain ⟨m, rfl⟩ := Int.eq_ofNat_of_zero_le hy.1
    repeat first|(refine BG ?_;first|(refine BH ?_;first|(refine BI ?_;refine BM ?_)|(refine BJ ?_;first|refine BN ?_|refine BO ?_)|refine BV (ha rfl rfl) ?_|refine BV (hl rfl) ?_|refine BV (v_conv_u64 rfl (by omega)) ?_|refine BP ?_)|(refine BK ?_;first|refine BS rfl rfl ?_|refine BT rfl rfl ?_|refine BU rfl ?_)|(refine BL ?_;first|refine BQ ?_)|(refine BR ?_;try simp only [setS]))|refine AA ?_|refine AC ?_|refine AD ?_|refine AE ?_|refine AF rfl rfl ?_|refine AG rfl rfl ?_|refine AH ?_|refine AI ?_|refine AJ ?_|refine AK ?_|refine AL ?_|refine AM ?_|refine AN ?_|refine AO ?_|refine AP ?_|refine AQ rfl ?_|refine AR ?_|refine AS ?_|refine AT rfl ?_|refine AU rfl ?_
    refine wr_call_e rfl ((oput_ok hE T.put T.clone ob.rs ob.nsemp (by omega) (m := m) (size := 3) (k := 3) (by decide)).mono fun r h7 ⟨⟨k7, b7⟩, o7⟩ => ?_)
    repeat first|(refine BG ?_;first|(refine BH ?_;first|(refine BI ?_;refine BM ?_)|(refine BJ ?_;first|refine BN ?_|refine BO ?_)|refine BP ?_)|(refine BK ?_;first|refine BS rfl rfl ?_|refine BT rfl rfl ?_|refine BU rfl ?_)|(refine BL ?_;first|refine BQ ?_)|(refine BR ?_;try simp only [setS]))|refine AA ?_|refine AC ?_|refine AD ?_|refine AE ?_|refine AF rfl rfl ?_|refine AG rfl rfl ?_|refine AH ?_|refine AI ?_|refine AJ ?_|refine AK ?_|refine AL ?_|refine AM ?_|refine AN ?_|refine AO ?_|refine AP ?_|refine AQ rfl ?_|refine AR ?_|refine AS ?_|refine AT rfl ?_|refine AU rfl ?_
    rw [show ((i : Int) + 1) = ((i + 1 : Nat) : Int) by omega]
    refine round_norm (n - 1) (by omega) ⟨i + 1, _, _, _, by omega, by omega, hk'.trans k7 (fun _ _ q => q), oc.keep k7 (fun _ _ q => q), fun k q => ⟨?_, fun q2 => ?_⟩, ?_, rfl⟩
    · have := b7 k q; have := hk'.n; omega
    · have := b7 k q; have := oc.lt k q2; omega
    · rw [hft, show 1 + 3 * (i + 1) = 1 + 3 * i + 3 by omega, ← List.cons_append, List.map_append]
      rw [encK_map] at o7
      exact o7
  · repeat first|(refine BG ?_;first|(refine BH ?_;first|(refine BI ?_;refine BM ?_)|(refine BJ ?_;first|refine BN ?_|refine BO ?_)|refine BP ?_)|(refine BK ?_;first|refine BS rfl rfl ?_|refine BT rfl rfl ?_|refine BU rfl ?_)|(refine BL ?_;first|refine BQ ?_)|(refine BR ?_;try simp only [setS]))|refine AA ?_|refine AC ?_|refine AD ?_|refine AE ?_|refine AF rfl rfl ?_|refine AG rfl rfl ?_|refine AH ?_|refine AI ?_|refine AJ ?_|refine AK ?_|refine AL ?_|refine AM ?_|refine AN ?_|refine AO ?_|refine AP ?_|refine AQ rfl ?_|refine AR ?_|refine AS ?_|refine AT rfl ?_|refine AU rfl ?_
    have e : i = L.length := by omega
    subst e
    rw [List.take_length] at ob
    refine ⟨bv, rfl, ⟨(hk.trans k2 (fun _ _ q => q)).trans hk' (fun _ _ q => q), fun k q => ?_⟩, ?_⟩
    · have := (hb k q).1; have := hk.n; have := k2.n; omega
    · rw [hfin, List.length_cons, flat_len, Nat.add_comm]
      exact ob
end
end Am
end Go.Proofs.Ythgcdoahoechhaa
namespace Go.Proofs.Ythgcdoahoechhaa
namespace Am
open Go.RowKit
set_option maxRecDepth 100000
def b_cloneI : BF := ⟨8, [0, 2, 4], (.seq (.reg [.mk none (.slot 1) (.mov (.mv (.const .snil)))]) (.seq (.seq (.reg [.mk none (.env 3) (.mov (.mv (.slot 0))), .mk none (.slot 2) (.mov (.bin .eql .slice (.env 3) (.const .snil)))]) (.cond (.slot 2) (.seq (.reg [.mk none (.slot 1) (.mov (.mv (.const .snil)))]) .ret) .skip)) (.seq (.reg [.mk none (.env 5) (.eff (.bslice 1 0 [(.int .i64 0)] [])), .mk none (.env 6) (.mov (.mv (.slot 0))), .mk none (.env 7) (.eff (.append 1 8 (.env 5) (.env 6))), .mk none (.slot 1) (.mov (.mv (.env 7)))]) .ret))), [.slot (.slot 1)]⟩
def b_mfDecode : BF := ⟨67, [0, 2, 3, 4, 5, 6, 8, 9, 24, 29, 64], (.seq (.reg [.mk none (.slot 1) (.eff (.alloc [.snil, (.int .i64 0), (.int .i64 0)])), .mk none (.slot 2) (.mov (.mv (.const (.int .i64 0))))]) (.seq (.seq (.reg [.mk none (.env 10) (.mov (.mv (.slot 0))), .mk none (.env 11) (.mov (.lenv (.env 10))), .mk none (.env 12) (.mov (.bin .lss .no (.env 11) (.const (.int .i64 1)))), .mk none (.env 13) (.mov (.mv (.env 12))), .mk (some ((.env 13), false)) (.env 14) (.mov (.mv (.slot 0))), .mk (some ((.env 13), false)) (.env 15) (.mov (.lenv (.env 14))), .mk (some ((.env 13), false)) (.env 16) (.mov (.mv (.slot 0))), .mk (some ((.env 13), false)) (.env 17) (.mov (.iaddr 1 (.env 16) (.const (.int .i64 0)))), .mk (some ((.env 13), false)) (.env 18) (.mov (.ld1 (.env 17))), .mk (some ((.env 13), false)) (.env 19) (.mov (.conv .i64 (.env 18))), .mk (some ((.env 13), false)) (.env 20) (.mov (.bin .add .no (.env 19) (.const (.int .i64 2)))), .mk (some ((.env 13), false)) (.env 21) (.mov (.bin .mul .no (.const (.int .i64 3)) (.env 20))), .mk (some ((.env 13), false)) (.env 22) (.mov (.bin .add .no (.const (.int .i64 1)) (.env 21))), .mk (some ((.env 13), false)) (.env 23) (.mov (.bin .neq .no (.env 15) (.env 22))), .mk none (.slot 8) (.mov (.pick (.env 13) (.const (.bool true)) (.env 23)))]) (.cond (.slot 8) (.seq (.reg [.mk none (.env 25) (.mov (.bld [.snil, (.int .i64 0), (.int .i64 0)] [])), .mk none .none (.eff (.store 3 (.slot 1) (.env 25))), .mk none (.slot 2) (.mov (.mv (.const (.int .i64 12))))]) .ret) .skip)) (.seq (.reg [.mk none (.slot 3) (.mov (.mv (.const .snil)))]) (.seq (.seq (.reg [.mk none (.slot 4) (.mov (.mv (.const (.int .i64 1))))]) (.block 0 (.loop (.seq (.seq (.reg [.mk none (.env 26) (.mov (.mv (.slot 4))), .mk none (.env 27) (.mov (.mv (.slot 0))), .mk none (.env 28) (.mov (.lenv (.env 27))), .mk none (.slot 9) (.mov (.bin .lss .no (.env 26) (.env 28)))]) (.cond (.slot 9) .skip (.exit 0))) (.seq (.block 1 (.seq (.reg [.mk none (.env 33) (.mov (.mv (.slot 0))), .mk none (.env 34) (.mov (.mv (.slot 4))), .mk none (.env 35) (.mov (.sl 1 (.env 33) (some (.env 34)) none none)), .mk none (.env 36) (.call 112 [(.env 35), (.const (.int .i64 3))]), .mk none (.env 32) (.mov (.mv (.env 36))), .mk none (.env 37) (.mov (.ext 0 (.env 32))), .mk none (.env 38) (.mov (.ext 1 (.env 32))), .mk none (.slot 5) (.mov (.mv (.env 37))), .mk none (.env 7) (.mov (.mv (.env 38)))]) (.reg [.mk none (.env 39) (.mov (.mv (.slot 3))), .mk none (.env 40) (.mov (.mv (.slot 5))), .mk none (.env 41) (.mov (.conv .i64 (.env 40))), .mk none (.env 42) (.eff (.bslice 1 1 [(.int .i64 0)] [(0, 1, (.env 41))])), .mk none (.env 43) (.eff (.append 1 8 (.env 39) (.env 42))), .mk none (.slot 3) (.mov (.mv (.env 43)))]))) (.reg [.mk none (.env 30) (.mov (.mv (.slot 4))), .mk none (.env 31) (.mov (.bin .add .no (.env 30) (.const (.int .i64 3)))), .mk none (.slot 4) (.mov (.mv (.env 31)))])))))) (.seq (.reg [.mk none (.env 44) (.mov (.mv (.slot 0))), .mk none (.env 45) (.mov (.iaddr 1 (.env 44) (.const (.int .i64 0)))), .mk none (.env 46) (.mov (.ld1 (.env 45))), .mk none (.env 47) (.mov (.conv .i64 (.env 46))), .mk none (.slot 6) (.mov (.mv (.env 47)))]) (.seq (.dreg [(.mk none (.env 48) (.mov (.mv (.slot 3))), []), (.mk none (.env 49) (.mov (.mv (.slot 6))), []), (.mk none (.env 50) (.mov (.sl 1 (.env 48) none (some (.env 49)) none)), []), (.mk none (.env 52) (.mov (.mv (.slot 3))), []), (.mk none (.env 53) (.mov (.mv (.slot 6))), []), (.mk none (.env 54) (.mov (.iaddr 1 (.env 52) (.env 53))), []), (.mk none (.env 55) (.mov (.ld1 (.env 54))), []), (.mk none (.env 56) (.mov (.mv (.slot 3))), []), (.mk none (.env 57) (.mov (.mv (.slot 6))), []), (.mk none (.env 58) (.mov (.bin .add .no (.env 57) (.const (.int .i64 1)))), []), (.mk none (.env 59) (.mov (.iaddr 1 (.env 56) (.env 58))), []), (.mk none (.env 60) (.mov (.ld1 (.env 59))), []), (.mk none (.slot 7) (.eff (.alloc [.snil, (.int .i64 0), (.int .i64 0)])), [0, 1, 2, 3, 4, 5, 6, 7, 8, 9, 10, 11]), (.mk none (.env 51) (.call 113 [(.env 50)]), [3, 4, 5, 6, 7, 8, 9, 10, 11, 12]), (.mk none (.env 61) (.mov (.bld [.snil, (.int .i64 0), (.int .i64 0)] [(0, 1, (.env 51)), (1, 1, (.env 55)), (2, 1, (.env 60))])), []), (.mk none .none (.eff (.store 3 (.slot 7) (.env 61))), [])]) (.seq (.seq (.reg [.mk none (.env 62) (.mov (.ldn 3 (.slot 7))), .mk none (.env 63) (.call 110 [(.env 62)]), .mk none (.slot 10) (.mov (.notb (.env 63)))]) (.cond (.slot 10) (.seq (.reg [.mk none (.env 65) (.mov (.bld [.snil, (.int .i64 0), (.int .i64 0)] [])), .mk none .none (.eff (.store 3 (.slot 1) (.env 65))), .mk none (.slot 2) (.mov (.mv (.const (.int .i64 12))))]) .ret) .skip)) (.seq (.reg [.mk none (.env 66) (.mov (.ldn 3 (.slot 7))), .mk none .none (.eff (.store 3 (.slot 1) (.env 66))), .mk none (.slot 2) (.mov (.mv (.const (.int .i64 0))))]) .ret)))))))), [.celln 3 (.slot 1), .slot (.slot 2)]⟩
mutual
theorem eqA_refl : ∀ a : AV, eqA a a = true
  | .int .. => by simp [eqA]
  | .bool .. => by simp [eqA]
  | .str .. => by simp [eqA]
  | .ptr .. => by simp [eqA]
  | .nilp => rfl
  | .slice .. => by simp [eqA]
  | .snil => rfl
  | .semp => rfl
  | .meth _ fs => by simp [eqA, eqAs_refl fs]
  | .func _ cs => by simp [eqA, eqAs_refl cs]
  | .nilf => rfl
  | .iface _ v => by simp [eqA, eqA_refl v]
  | .inil => rfl
  | .agg l => by simp [eqA, eqAs_refl l]
  | .tup l => by simp [eqA, eqAs_refl l]
  | .bot => rfl
theorem eqAs_refl : ∀ l : List AV, eqAs l l = true
  | [] => rfl
  | a :: l => by simp [eqAs, eqA_refl a, eqAs_refl l]
end
section
variable {X : Type} {D : Dp X} {h : Hp X} {past : List (Pa X)} {r : List Nat} {q : Nat}
structure Chk (h : Hp X) (past : List (Pa X)) (r : List Nat) : Prop where
  out : chkAll h past r = true
theorem chk_nil : Chk h past [] := ⟨rfl⟩
theorem chk_mov {m : Mv} {e : En} {t : List AV} {v : AV} (hp : past[q]? = some (.mov m e t v)) (hm : m.ev e t h = some v) (H : Chk h past r) : Chk h past (q :: r) := ⟨by
  simp only [chkAll, hp, Pa.ok, hm, eqA_refl, H.out, Bool.and_self]⟩
theorem chk_skip (hp : past[q]? = some .skip) (H : Chk h past r) : Chk h past (q :: r) := ⟨by simp only [chkAll, hp, Pa.ok, H.out, Bool.and_self]⟩
theorem chk_alc {g : Nat} {l : List AV} (hp : past[q]? = some (.alc g l)) (hg : h.get g = some (.rw l)) (H : Chk h past r) : Chk h past (q :: r) := ⟨by simp only [chkAll, hp, Pa.ok, hg, eqAs_refl, H.out, Bool.and_self]⟩
section
variable {l : Dr} {e : En} {t : List AV} {Q : R X → Prop} {chk : List Nat}
theorem wd_alloc_s {k : Nat} {cs : List AV} (hc : Chk (h.push (.rw cs)) past chk) (H : WD D l (past ++ [.alc h.n cs]) e (setS t k (.ptr h.n 0)) (h.push (.rw cs)) Q) : WD D ((.mk none (.slot k) (.eff (.alloc cs)), chk) :: l) past e t h Q := by
  obtain ⟨t', h', h1, h2⟩ := H.out
  refine ⟨⟨t', h', ?_, h2⟩⟩
  have hp : paOf (.eff (.alloc cs)) e t h (.ptr h.n 0) (h.push (.rw cs)) = some (.alc h.n cs) := by
    show (match (h.push (.rw cs)).get h.n, some ((fun g => AV.ptr g 0), cs) with | some (.rw l), some (_, l') => bif eqAs l l' then some (Pa.alc h.n l) else none | _, _ => none) = _
    rw [Hp.push_self]
    simp [eqAs_refl]
  have ho : (Op1.eff (.alloc cs)).run D e t h = .ret (.ptr h.n 0) (h.push (.rw cs)) := rfl
  simp only [drGo, gdv, St1.g, St1.o, St1.d, ho, hp, hc.out, cond_true]
  exact h1
theorem wd_store_n {n : Nat} {a x : Od} {v : AV} {h' : Hp X} (hm : (Ef.store n a x).ev e t h = some (v, h')) (H : WD D l (past ++ [.skip]) e t h' Q) : WD D ((.mk none .none (.eff (.store n a x)), []) :: l) past e t h Q := by
  obtain ⟨t', h'', h1, h2⟩ := H.out
  refine ⟨⟨t', h'', ?_, h2⟩⟩
  have hp : paOf (.eff (.store n a x)) e t h v h' = some .skip := rfl
  have ho : (Op1.eff (.store n a x)).run D e t h = .ret v h' := by simp only [Op1.run, hm]
  simp only [drGo, gdv, St1.g, St1.o, St1.d, ho, hp, chkAll, cond_true]
  exact h1
theorem wd_heap {h' : Hp X} (he : h = h') (H : WD D l past e t h' Q) : WD D l past e t h Q := by rw [he]; exact H
theorem wd_calls_e {k f : Nat} {xs : List Od} {args : List AV} (ha : (xs.map fun x => x.ev e t) = args) (H : WF D f args h fun v h' => Chk h' past chk ∧ WD D l (past ++ [.skip]) ((k, v) :: e) t h' Q) : WD D ((.mk none (.env k) (.call f xs), chk) :: l) past e t h Q :=
  wd_call_e ha (H.mono fun v h' ⟨q1, q2⟩ => ⟨q1.out, q2⟩)
end
theorem RS.at2 {n : Nat} {v : AV} {cells : List AV} (a : RS h 1 v n cells) {i : Nat} (hi : i < n) : ∃ g o, (∀ {hh : Hp X} {e : En} {t : List AV} {x y : Od} {k : IntKind}, x.ev e t = v → y.ev e t = .int k (i : Int) → (Mv.iaddr 1 x y).ev e t hh = some (.ptr g o)) ∧
    ∀ {S : Nat → Prop} {hh : Hp X}, Keep S h hh → (∀ k, blk v k → ¬ S k) → ∀ {e : En} {t : List AV} {x : Od}, x.ev e t = .ptr g o → (Mv.ld1 x).ev e t hh = cells[i]? := by
  cases v <;> first | exact a.elim | skip
  · rename_i z g o m cap
    obtain ⟨rfl, rfl, hg, l, hl, hle, rfl⟩ := a
    refine ⟨g, o + i * 1, fun {hh e t x y k} hx hy => ?_, fun {S hh} hk hs {e t x} hx => ?_⟩
    · simp only [Mv.ev, hx, hy, nOf]
      rw [show Nat.blt i m = true by rw [Nat.blt_eq]; exact hi]
      rfl
    · simp only [Mv.ev, hx, AV.onPtr]
      rw [rowOf_get (hk.get g hg (hs g rfl)), hl]
      simp only
      rw [getN_ge]
      rw [List.getElem?_take_of_lt (by omega), List.getElem?_drop, Nat.mul_one]
  · obtain ⟨rfl, _⟩ := a; omega
  · obtain ⟨rfl, _⟩ := a; omega
end
def nums : Nat → List UInt8 → List Int
  | 0, _ => []
  | k + 1, bs => (be (bs.take 3) : Int) :: nums k (bs.drop 3)
theorem nums_len : ∀ (k : Nat) (bs : List UInt8), (nums k bs).length = k
  | 0, _ => rfl
  | k + 1, bs => by simp [nums, nums_len k]
theorem nums_at : ∀ {k : Nat} {bs : List UInt8} {i : Nat}, i < k → (nums k bs)[i]? = some (be ((bs.drop (3 * i)).take 3) : Int)
  | 0, _, _, h => by omega
  | k + 1, bs, 0, _ => by simp [nums]
  | k + 1, bs, i + 1, h => by
    rw [nums, List.getElem?_cons_succ, nums_at (by omega), List.drop_drop]
    congr 5
    omega
theorem nums_take {k : Nat} {bs : List UInt8} {i : Nat} (h : i < k) : (nums k bs).take (i + 1) = (nums k bs).take i ++ [(be ((bs.drop (3 * i)).take 3) : Int)] := by
  rw [List.take_add_one, nums_at h]
  rfl
noncomputable def decP (bs : List UInt8) : Option (List Int × Int × Int) :=
  if bs.length < 1 ∨ bs.length ≠ 1 + 3 * ((bs.getD 0 0).toNat + 2) then none else
  bif mayF ((nums ((bs.getD 0 0).toNat + 2) (bs.drop 1)).take (bs.getD 0 0).toNat) ((nums ((bs.getD 0 0).toNat + 2) (bs.drop 1)).getD (bs.getD 0 0).toNat 0) ((nums ((bs.getD 0 0).toNat + 2) (bs.drop 1)).getD ((bs.getD 0 0).toNat + 1) 0)
  then some ((nums ((bs.getD 0 0).toNat + 2) (bs.drop 1)).take (bs.getD 0 0).toNat, (nums ((bs.getD 0 0).toNat + 2) (bs.drop 1)).getD (bs.getD 0 0).toNat 0, (nums ((bs.getD 0 0).toNat + 2) (bs.drop 1)).getD ((bs.getD 0 0).toNat + 1) 0) else none
section
variable {X : Type} {E : Nat → Option (Ent X)}
theorem cloneI_ok (hE : ∀ f e, E f = some e → e.plain) (hf : E 113 = some (.bc b_cloneI)) {h : Hp X} {v : AV} {n : Nat} {cells : List AV} (hr : RS h 1 v n cells) (hv : v ≠ .semp) (hn : n ≤ 1000000) :
    WF (lim E) 113 [v] h fun r h' => Own1 h h' r ∧ OS h' 1 r n cells := by
  refine wf_bc hE hf rfl ?_
  simp only [b_cloneI, List.map, getS]
  rcases cnil hv hr with ⟨rfl, rfl, rfl, hc⟩ | ⟨hne, hc⟩
  · repeat first|(refine BG ?_;first|(refine BH ?_;first|(refine BI ?_;refine BM ?_)|(refine BJ ?_;first|refine BN ?_|refine BO ?_)|refine BV (hc (by rfl)) ?_|refine BP ?_)|(refine BK ?_;first|refine BS rfl rfl ?_|refine BT rfl rfl ?_|refine BU rfl ?_)|(refine BL ?_;first|refine BQ ?_)|(refine BR ?_;try simp only [setS]))|refine AA ?_|refine AC ?_|refine AD ?_|refine AE ?_|refine AF rfl rfl ?_|refine AG rfl rfl ?_|refine AH ?_|refine AI ?_|refine AJ ?_|refine AK ?_|refine AL ?_|refine AM ?_|refine AN ?_|refine AO ?_|refine AP ?_|refine AQ rfl ?_|refine AR ?_|refine AS ?_|refine AT rfl ?_|refine AU rfl ?_
    exact ⟨⟨Keep.refl _ _, fun g hg => hg.elim⟩, rfl, rfl⟩
  · repeat first|(refine BG ?_;first|(refine BH ?_;first|(refine BI ?_;refine BM ?_)|(refine BJ ?_;first|refine BN ?_|refine BO ?_)|refine BV (hc (by rfl)) ?_|refine BP ?_)|(refine BK ?_;first|refine BS rfl rfl ?_|refine BT rfl rfl ?_|refine BU rfl ?_)|(refine BL ?_;first|refine BW ef_bs0 ?_|refine BQ ?_)|(refine BR ?_;try simp only [setS]))|refine AA ?_|refine AC ?_|refine AD ?_|refine AE ?_|refine AF rfl rfl ?_|refine AG rfl rfl ?_|refine AH ?_|refine AI ?_|refine AJ ?_|refine AK ?_|refine AL ?_|refine AM ?_|refine AN ?_|refine AO ?_|refine AP ?_|refine AQ rfl ?_|refine AR ?_|refine AS ?_|refine AT rfl ?_|refine AU rfl ?_
    have hm : (maxLen : Nat) = 9223372036854775807 := rfl
    refine wr_app_e (n := 0) (m := n) (cells := []) rfl rfl (os_push0 Nat.zero_lt_one) Nat.zero_lt_one (hr.keep (Keep.push NoB _ _) (fun _ _ q => q)) (by omega) (by omega) fun v' h' h1 h2 h3 => ?_
    repeat first|(refine BG ?_;first|(refine BH ?_;first|(refine BI ?_;refine BM ?_)|(refine BJ ?_;first|refine BN ?_|refine BO ?_)|refine BP ?_)|(refine BK ?_;first|refine BS rfl rfl ?_|refine BT rfl rfl ?_|refine BU rfl ?_)|(refine BL ?_;first|refine BQ ?_)|(refine BR ?_;try simp only [setS]))|refine AA ?_|refine AC ?_|refine AD ?_|refine AE ?_|refine AF rfl rfl ?_|refine AG rfl rfl ?_|refine AH ?_|refine AI ?_|refine AJ ?_|refine AK ?_|refine AL ?_|refine AM ?_|refine AN ?_|refine AO ?_|refine AP ?_|refine AQ rfl ?_|refine AR ?_|refine AS ?_|refine AT rfl ?_|refine AU rfl ?_
    refine ⟨⟨(Keep.push NoB _ _).trans h2 (fun g hg hb => ?_), fun g hg => ?_⟩, by rw [Nat.zero_add] at h1; exact h1⟩
    · cases hb; omega
    · rcases h3 g hg with hb | hb
      · cases hb; exact Nat.le_refl _
      · exact Nat.le_trans (Nat.le_succ _) hb
structure MfD (E : Nat → Option (Ent X)) : Prop where
  right : E 110 = some (.bc b_mfRight)
  has : E 122 = some (.bc b_hasI)
  idx : E 128 = some (.bc b_idxI)
  get : E 112 = some (.bc b_octGet)
  cloneI : E 113 = some (.bc b_cloneI)
  decode : E 89 = some (.bc b_mfDecode)
def DecPost (h : Hp X) (o : Option (List Int × Int × Int)) (r : AV) (h' : Hp X) : Prop := Keep NoB h h' ∧ match o with
  | none => r = .tup [LsV .snil 0 0, .int .i64 12]
  | some (ts, w, n) => ∃ tv, r = .tup [LsV tv w n, .int .i64 0] ∧ OS h' 1 tv ts.length (ts.map iv) ∧ ∀ k, blk tv k → h.n ≤ k
theorem res_ldn2 {n g o : Nat} {x y : Od} {t : List AV} {h : Hp X} {l : List AV} {v : AV} (hx : x.ev [] t = .ptr g o) (hg : h.get g = some (.rw l)) (ho : o + n ≤ l.length) (hy : y.ev [] t = v) : resV t h [.celln n x, .slot y] = some [.agg ((l.drop o).take n), v] := by
  unfold resV
  rw [show (Rs.celln n x).ev t h = some (.agg ((l.drop o).take n)) from v_ldn hx hg ho]
  unfold resV
  rw [show (Rs.slot y).ev t h = some v from congrArg some hy]
  rfl
theorem decode_bad (hE : ∀ f e, E f = some e → e.plain) (T : MfD E) {h : Hp X} {v : AV} {bs : List UInt8} (hr : RS h 1 v bs.length (bs.map ub)) (hb : bs.length ≤ 1099511627776) (hx : bs.length < 1 ∨ bs.length ≠ 1 + 3 * ((bs.getD 0 0).toNat + 2)) :
    WF (lim E) 89 [v] h fun r h' => DecPost h none r h' := by
  refine wf_bc hE T.decode rfl ?_
  simp only [b_mfDecode, List.map, getS]
  have hg : (h.push (.rw [.snil, .int .i64 0, .int .i64 0])).get h.n = some (.rw [.snil, .int .i64 0, .int .i64 0]) := Hp.push_self _ _
  have hk : Keep NoB h (h.push (.rw [.snil, .int .i64 0, .int .i64 0])) := Keep.push _ _ _
  have hr := hr.keep hk (fun _ _ q => q)
  have fin : Keep NoB h ((h.push (.rw [.snil, .int .i64 0, .int .i64 0])).put h.n (.rw (spl 0 [.snil, .int .i64 0, .int .i64 0] [.snil, .int .i64 0, .int .i64 0]))) := hk.trans (Keep.put (S := OneB h.n) _ _ _ rfl) (fun k hk q => by have : k = h.n := q; omega)
  by_cases h1 : bs.length < 1
  · repeat first|(refine BG ?_;first|(refine BH ?_;first|(refine BI ?_;refine BM ?_)|(refine BJ ?_;first|refine BN ?_|refine BO ?_)|refine BV (hr.lenv (by rfl)) ?_|refine BP ?_)|(refine BK ?_;first|refine BS rfl rfl ?_|refine BT rfl rfl ?_|refine BU rfl ?_)|(refine BL ?_;first|refine BW (ef_storeN rfl rfl rfl rfl hg (Nat.le_refl _)) ?_|refine BQ ?_)|(refine BR ?_;try simp only [setS]))|refine AA ?_|refine AC ?_|refine AD ?_|refine AE ?_|refine AF rfl rfl ?_|refine AG rfl rfl ?_|refine AH ?_|refine AI ?_|refine AJ ?_|refine AK ?_|refine AL ?_|refine AM ?_|refine AN ?_|refine AO ?_|refine AP ?_|refine AQ rfl ?_|refine AR ?_|refine AS ?_|refine AT rfl ?_|refine AU rfl ?_
    exact AT (res_ldn2 rfl (Hp.put_self _ _ _) (Nat.le_refl _) rfl) ⟨fin, rfl⟩
  · have h2 : bs.length ≠ 1 + 3 * ((bs.getD 0 0).toNat + 2) := by rcases hx with q | q; exact absurd q h1; exact q
    obtain ⟨gg, o, ha, hl⟩ := hr.at2 (i := 0) (by omega)
    have hl := @hl NoB _ (Keep.refl _ _) (fun _ _ q => q)
    have hu := ub_at (l := bs) (i := 0) (by omega) (by omega)
    rw [show ((0 : Int).toNat) = 0 from rfl] at hu
    rw [hu] at hl
    have hc := (bs.getD 0 0).toNat_lt
    generalize (bs.getD 0 0).toNat = c at h2 hl hc
    repeat first|(refine BG ?_;first|(refine BH ?_;first|(refine BI ?_;refine BM ?_)|(refine BJ ?_;first|refine BN ?_|refine BO ?_)|refine BV (hr.lenv (by rfl)) ?_|refine BV (ha rfl rfl) ?_|refine BV (hl rfl) ?_|refine BV (v_conv_i64 rfl (by omega)) ?_|refine BP ?_)|(refine BK ?_;first|refine BS rfl rfl ?_|refine BT rfl rfl ?_|refine BU rfl ?_)|(refine BL ?_;first|refine BW (ef_storeN rfl rfl rfl rfl hg (Nat.le_refl _)) ?_|refine BQ ?_)|(refine BR ?_;try simp only [setS]))|refine AA ?_|refine AC ?_|refine AD ?_|refine AE ?_|refine AF rfl rfl ?_|refine AG rfl rfl ?_|refine AH ?_|refine AI ?_|refine AJ ?_|refine AK ?_|refine AL ?_|refine AM ?_|refine AN ?_|refine AO ?_|refine AP ?_|refine AQ rfl ?_|refine AR ?_|refine AS ?_|refine AT rfl ?_|refine AU rfl ?_
    exact AT (res_ldn2 rfl (Hp.put_self _ _ _) (Nat.le_refl _) rfl) ⟨fin, rfl⟩
set_option maxHeartbeats 4000000 in
theorem decode_go (hE : ∀ f e, E f = some e → e.plain) (T : MfD E) {h : Hp X} {v : AV} {bs : List UInt8} (hr : RS h 1 v bs.length (bs.map ub)) (hb : bs.length ≤ 1099511627776) (hx : ¬ (bs.length < 1 ∨ bs.length ≠ 1 + 3 * ((bs.getD 0 0).toNat + 2))) :
    WF (lim E) 89 [v] h fun r h' => DecPost h (decP bs) r h' := by
  have hdec : decP bs = bif mayF ((nums ((bs.getD 0 0).toNat + 2) (bs.drop 1)).take (bs.getD 0 0).toNat) ((nums ((bs.getD 0 0).toNat + 2) (bs.drop 1)).getD (bs.getD 0 0).toNat 0) ((nums ((bs.getD 0 0).toNat + 2) (bs.drop 1)).getD ((bs.getD 0 0).toNat + 1) 0)
    then some ((nums ((bs.getD 0 0).toNat + 2) (bs.drop 1)).take (bs.getD 0 0).toNat, (nums ((bs.getD 0 0).toNat + 2) (bs.drop 1)).getD (bs.getD 0 0).toNat 0, (nums ((bs.getD 0 0).toNat + 2) (bs.drop 1)).getD ((bs.getD 0 0).toNat + 1) 0) else none := by
    unfold decP; rw [if_neg hx]
  rw [hdec]
  refine wf_bc hE T.decode rfl ?_
  simp only [b_mfDecode, List.map, getS]
  have hmx : (maxLen : Nat) = 9223372036854775807 := rfl
  have hg : (h.push (.rw [.snil, .int .i64 0, .int .i64 0])).get h.n = some (.rw [.snil, .int .i64 0, .int .i64 0]) := Hp.push_self _ _
  have hk : Keep NoB h (h.push (.rw [.snil, .int .i64 0, .int .i64 0])) := Keep.push _ _ _
  have hr1 := hr.keep hk (fun _ _ q => q)
  have h1n : (h.push (.rw [.snil, .int .i64 0, .int .i64 0]) : Hp X).n = h.n + 1 := rfl
  have hl1 : ¬ bs.length < 1 := fun q => hx (.inl q)
  have hl2 : bs.length = 1 + 3 * ((bs.getD 0 0).toNat + 2) := Decidable.byContradiction fun q => hx (.inr q)
  obtain ⟨gg, o, ha, hl⟩ := hr1.at2 (i := 0) (by omega)
  have hu := ub_at (l := bs) (i := 0) (by omega) (by omega)
  rw [show ((0 : Int).toNat) = 0 from rfl] at hu
  rw [hu] at hl
  have hc := (bs.getD 0 0).toNat_lt
  generalize (bs.getD 0 0).toNat = c at hl2 hl hc
  have hlz := @hl NoB _ (Keep.refl _ _) (fun _ _ q => q)
  repeat first|(refine BG ?_;first|(refine BH ?_;first|(refine BI ?_;refine BM ?_)|(refine BJ ?_;first|refine BN ?_|refine BO ?_)|refine BV (hr1.lenv (by rfl)) ?_|refine BV (ha rfl rfl) ?_|refine BV (hlz rfl) ?_|refine BV (v_conv_i64 rfl (by omega)) ?_|refine BP ?_)|(refine BK ?_;first|refine BS rfl rfl ?_|refine BT rfl rfl ?_|refine BU rfl ?_)|(refine BL ?_;first|refine BQ ?_)|(refine BR ?_;try simp only [setS]))|(refine BX ?_;first|refine BY rfl ?_|(refine BZ ?_;refine CA ?_)|refine CB (hr1.lenv (by rfl)) ?_|refine CB (ha rfl rfl) ?_|refine CB (hlz rfl) ?_|refine CB (v_conv_i64 rfl (by omega)) ?_|refine CC ?_|(refine CD ?_;try simp only [setS]))|refine AA ?_|refine AC ?_|refine AD ?_|refine AE ?_|refine AF rfl rfl ?_|refine AG rfl rfl ?_|refine AH ?_|refine AI ?_|refine AJ ?_|refine AK ?_|refine AL ?_|refine AM ?_|refine AN ?_|refine AO ?_|refine AP ?_|refine AQ rfl ?_|refine AR ?_|refine AS ?_|refine AT rfl ?_|refine AU rfl ?_
  have hLl := nums_len (c + 2) (bs.drop 1)
  have hLt : ∀ i, i < c + 2 → (nums (c + 2) (bs.drop 1)).take (i + 1) = (nums (c + 2) (bs.drop 1)).take i ++ [(be ((bs.drop (1 + 3 * i)).take 3) : Int)] := fun i hi => by
    rw [nums_take hi, List.drop_drop]
  generalize nums (c + 2) (bs.drop 1) = L at hLl hLt
  generalize hh1 : h.push (.rw [.snil, .int .i64 0, .int .i64 0]) = h1 at hg hk hr1 h1n hl
  refine wb_loop (fun n t h' => ∃ (i : Nat) (nv s5 s6 s7 s8 s9 s10 : AV), i ≤ c + 2 ∧ n = c + 2 - i ∧ Keep NoB h1 h' ∧ OS h' 1 nv i ((L.take i).map iv) ∧ (∀ k, blk nv k → h1.n ≤ k) ∧ t = [v, .ptr h.n 0, .int .i64 0, nv, .int .i64 (1 + 3 * i : Nat), s5, s6, s7, s8, s9, s10]) ?_ (c + 2) _ _
    ⟨0, .snil, _, _, _, _, _, _, by omega, by omega, Keep.refl _ _, ⟨rfl, rfl⟩, (fun k q => q.elim), rfl⟩
  rintro n t h' ⟨i, nv, s5, s6, s7, s8, s9, s10, hi, hn, hk', ho, hlo, rfl⟩
  have hr' := hr1.up hk'
  by_cases hlt : i < c + 2
  · obtain ⟨v2, q1, q2, q3, q4⟩ := hr'.bytes (lo := 1 + 3 * i) (hi := bs.length) (by omega) (Nat.le_refl _)
    have e1 : (bs.drop (1 + 3 * i)).take (bs.length - (1 + 3 * i)) = bs.drop (1 + 3 * i) := List.take_of_length_le (by rw [List.length_drop]; exact Nat.le_refl _)
    rw [e1] at q1
    have hb3 := be3 (bs.drop (1 + 3 * i))
    repeat first|(refine BG ?_;first|(refine BH ?_;first|(refine BI ?_;refine BM ?_)|(refine BJ ?_;first|refine BN ?_|refine BO ?_)|refine BV (hr'.lenv (by rfl)) ?_|refine BV (q4 (by rfl) (.inr ⟨_, _, rfl, rfl⟩) (.inl ⟨rfl, rfl⟩)) ?_|refine BP ?_)|(refine BK ?_;first|refine BS rfl rfl ?_|refine BT rfl rfl ?_|refine BU rfl ?_)|(refine BL ?_;first|refine BQ ?_)|(refine BR ?_;try simp only [setS]))|(refine BX ?_;first|refine BY rfl ?_|(refine BZ ?_;refine CA ?_)|refine CB (hr'.lenv (by rfl)) ?_|refine CB (q4 (by rfl) (.inr ⟨_, _, rfl, rfl⟩) (.inl ⟨rfl, rfl⟩)) ?_|refine CC ?_|(refine CD ?_;try simp only [setS]))|refine AA ?_|refine AC ?_|refine AD ?_|refine AE ?_|refine AF rfl rfl ?_|refine AG rfl rfl ?_|refine AH ?_|refine AI ?_|refine AJ ?_|refine AK ?_|refine AL ?_|refine AM ?_|refine AN ?_|refine AO ?_|refine AP ?_|refine AQ rfl ?_|refine AR ?_|refine AS ?_|refine AT rfl ?_|refine AU rfl ?_
    refine wr_call_e rfl ((get_ok hE T.get q1 (n := 3) (by omega) (by rw [List.length_drop]; omega)).mono fun r h2 ⟨x1, x2⟩ => ?_)
    subst x1 x2
    repeat first|(refine BG ?_;first|(refine BH ?_;first|(refine BI ?_;refine BM ?_)|(refine BJ ?_;first|refine BN ?_|refine BO ?_)|refine BV (v_conv_i64 rfl (by omega)) ?_|refine BP ?_)|(refine BK ?_;first|refine BS rfl rfl ?_|refine BT rfl rfl ?_|refine BU rfl ?_)|(refine BL ?_;first|refine BW (ef_bs1 rfl) ?_|refine BQ ?_)|(refine BR ?_;try simp only [setS]))|(refine BX ?_;first|refine BY rfl ?_|(refine BZ ?_;refine CA ?_)|refine CB (v_conv_i64 rfl (by omega)) ?_|refine CC ?_|(refine CD ?_;try simp only [setS]))|refine AA ?_|refine AC ?_|refine AD ?_|refine AE ?_|refine AF rfl rfl ?_|refine AG rfl rfl ?_|refine AH ?_|refine AI ?_|refine AJ ?_|refine AK ?_|refine AL ?_|refine AM ?_|refine AN ?_|refine AO ?_|refine AP ?_|refine AQ rfl ?_|refine AR ?_|refine AS ?_|refine AT rfl ?_|refine AU rfl ?_
    refine wr_app_e rfl rfl (ho.up (Keep.push NoB h2 _)) Nat.zero_lt_one (rs_push (l := [_]) rfl) (by omega) (by omega) fun nv' h3 a1 a2 a3 => ?_
    repeat first|(refine BG ?_;first|(refine BH ?_;first|(refine BI ?_;refine BM ?_)|(refine BJ ?_;first|refine BN ?_|refine BO ?_)|refine BP ?_)|(refine BK ?_;first|refine BS rfl rfl ?_|refine BT rfl rfl ?_|refine BU rfl ?_)|(refine BL ?_;first|refine BQ ?_)|(refine BR ?_;try simp only [setS]))|refine AA ?_|refine AC ?_|refine AD ?_|refine AE ?_|refine AF rfl rfl ?_|refine AG rfl rfl ?_|refine AH ?_|refine AI ?_|refine AJ ?_|refine AK ?_|refine AL ?_|refine AM ?_|refine AN ?_|refine AO ?_|refine AP ?_|refine AQ rfl ?_|refine AR ?_|refine AS ?_|refine AT rfl ?_|refine AU rfl ?_
    have k3 : Keep NoB h1 h3 := (hk'.and (Keep.push NoB h2 _)).own a2 hlo
    rw [show ((1 + 3 * i : Nat) : Int) + 3 = ((1 + 3 * (i + 1) : Nat) : Int) by omega]
    refine round_norm (n - 1) (by omega) ⟨i + 1, nv', _, _, _, _, _, _, by omega, by omega, k3, ?_, fun k hk2 => ?_, rfl⟩
    · rw [hLt i hlt, List.map_append]
      exact a1
    · rcases a3 k hk2 with q | q
      · exact hlo k q
      · have := hk'.n; simp only [push_n] at q; omega
  · have hic : i = c + 2 := by omega
    subst hic
    have eL : L.take (c + 2) = L := List.take_of_length_le (by omega)
    rw [eL] at ho
    have ho2 : OS h' 1 nv L.length (L.map iv) := by rw [hLl]; exact ho
    have hlq := @hl NoB _ hk' (fun _ _ q => q)
    obtain ⟨cv, c1, c2, c3, c4⟩ := ho2.rs.cut (lo := 0) (hi := c) (by omega) (by omega)
    rw [List.drop_zero, Nat.sub_zero] at c1
    obtain ⟨ga, oa, aa, la⟩ := ho2.rs.at2 (i := c) (by omega)
    obtain ⟨gb, ob, ab, lb⟩ := ho2.rs.at2 (i := c + 1) (by omega)
    have ia : (L.map iv)[c]? = some (.int .i64 (L.getD c 0)) := by have := map_at (l := L) (i := c) (by omega) (by omega); rw [Int.toNat_natCast] at this; exact this
    have ib : (L.map iv)[c + 1]? = some (.int .i64 (L.getD (c + 1) 0)) := by have := map_at (l := L) (i := ((c + 1 : Nat) : Int)) (by omega) (by omega); rw [Int.toNat_natCast] at this; exact this
    rw [ia] at la
    rw [ib] at lb
    generalize L.getD c 0 = wal at la ⊢
    generalize L.getD (c + 1) 0 = next at lb ⊢
    have e1 : AV.int .i64 ((c : Int) + 1) = AV.int .i64 ((c + 1 : Nat) : Int) := int_eq (by omega)
    have la0 := @la NoB _ (Keep.refl _ _) (fun _ _ q => q)
    have lb0 := @lb NoB _ (Keep.refl _ _) (fun _ _ q => q)
    repeat first|(refine BG ?_;first|(refine BH ?_;first|(refine BI ?_;refine BM ?_)|(refine BJ ?_;first|refine BN ?_|refine BO ?_)|refine BV (hr'.lenv (by rfl)) ?_|refine BV (ha rfl rfl) ?_|refine BV (hlq rfl) ?_|refine BV (v_conv_i64 rfl (by omega)) ?_|refine BV (c4 (by rfl) (.inl ⟨rfl, rfl⟩) (.inr ⟨_, _, rfl, rfl⟩)) ?_|refine BV (aa rfl rfl) ?_|refine BV (la0 rfl) ?_|refine BV (v_add rfl rfl (by omega)) ?_|refine BV (ab rfl e1) ?_|refine BV (lb0 rfl) ?_|refine BP ?_)|(refine BK ?_;first|refine BS rfl rfl ?_|refine BT rfl rfl ?_|refine BU rfl ?_)|(refine BL ?_;first|refine BQ ?_)|(refine BR ?_;try simp only [setS]))|(refine BX ?_;first|refine BY rfl ?_|(refine BZ ?_;refine CA ?_)|refine CB (hr'.lenv (by rfl)) ?_|refine CB (ha rfl rfl) ?_|refine CB (hlq rfl) ?_|refine CB (v_conv_i64 rfl (by omega)) ?_|refine CB (c4 (by rfl) (.inl ⟨rfl, rfl⟩) (.inr ⟨_, _, rfl, rfl⟩)) ?_|refine CB (aa rfl rfl) ?_|refine CB (la0 rfl) ?_|refine CB (v_add rfl rfl (by omega)) ?_|refine CB (ab rfl e1) ?_|refine CB (lb0 rfl) ?_|refine CC ?_|(refine CD ?_;try simp only [setS]))|refine AA ?_|refine AC ?_|refine AD ?_|refine AE ?_|refine AF rfl rfl ?_|refine AG rfl rfl ?_|refine AH ?_|refine AI ?_|refine AJ ?_|refine AK ?_|refine AL ?_|refine AM ?_|refine AN ?_|refine AO ?_|refine AP ?_|refine AQ rfl ?_|refine AR ?_|refine AS ?_|refine AT rfl ?_|refine AU rfl ?_
    have hkp : Keep NoB h' (h'.push (.rw [.snil, .int .i64 0, .int .i64 0])) := Keep.push _ _ _
    have la1 := @la NoB _ hkp (fun _ _ q => q)
    have lb1 := @lb NoB _ hkp (fun _ _ q => q)
    refine wd_alloc_s (by repeat first | exact chk_nil | refine chk_mov rfl rfl ?_ | refine chk_mov rfl (c4 (by rfl) (.inl ⟨rfl, rfl⟩) (.inr ⟨_, _, rfl, rfl⟩)) ?_ | refine chk_mov rfl (aa rfl rfl) ?_ | refine chk_mov rfl (la1 rfl) ?_ | refine chk_mov rfl (v_add rfl rfl (by omega)) ?_ | refine chk_mov rfl (ab rfl e1) ?_ | refine chk_mov rfl (lb1 rfl) ?_ | refine chk_alc rfl rfl ?_) ?_
    have n1 := hk'.n
    have bx1 : Bx (h'.push (.rw [.snil, .int .i64 0, .int .i64 0])) h'.n [.snil, .int .i64 0, .int .i64 0] := bx_push
    obtain ⟨hp, hhp⟩ : ∃ hp : Hp X, hp = h'.push (.rw [.snil, .int .i64 0, .int .i64 0]) := ⟨_, rfl⟩
    rw [← hhp] at hkp bx1 ⊢
    have npp : hp.n = h'.n + 1 := by rw [hhp]; rfl
    simp only [setS]
    refine wd_calls_e rfl ((cloneI_ok hE T.cloneI (c1.up hkp) (c3 (by rintro rfl; exact ho2.elim)) (by rw [List.length_take]; omega)).mono fun tv h2 ⟨⟨k2, b2⟩, o2⟩ => ?_)
    have kk := hkp.and k2
    have la2 := @la NoB _ kk (fun _ _ q => q)
    have lb2 := @lb NoB _ kk (fun _ _ q => q)
    have bx2 := bx1.up k2
    refine ⟨(by repeat first | exact chk_nil | refine chk_mov rfl rfl ?_ | refine chk_mov rfl (c4 (by rfl) (.inl ⟨rfl, rfl⟩) (.inr ⟨_, _, rfl, rfl⟩)) ?_ | refine chk_mov rfl (aa rfl rfl) ?_ | refine chk_mov rfl (la2 rfl) ?_ | refine chk_mov rfl (v_add rfl rfl (by omega)) ?_ | refine chk_mov rfl (ab rfl e1) ?_ | refine chk_mov rfl (lb2 rfl) ?_ | refine chk_alc rfl bx2.get ?_), ?_⟩
    refine wd_mov_e (v_bld3 rfl rfl rfl o2.rs.one.1 rfl rfl) ?_
    refine wd_store_n (ef_bxn bx2 rfl rfl (one_all3 o2.rs.one.2 rfl rfl) rfl (Nat.le_refl _)) ?_
    have bx3 := bx2.put (r := [tv, .int .i64 wal, .int .i64 next])
    have k3 : Keep (OneB h'.n) h2 (h2.put h'.n (.rw [tv, .int .i64 wal, .int .i64 next])) := Keep.put _ _ _ rfl
    have o3 := o2.keep k3 (fun k q1 q2 => by have := b2 k q1; have q2 : k = h'.n := q2; omega)
    have bxr := (((Bx.mk (by omega) hg : Bx h1 h.n _).up hk').up kk).keep k3 (fun q => by have q : h.n = h'.n := q; omega)
    obtain ⟨h3, hh3⟩ : ∃ h3 : Hp X, h3 = h2.put h'.n (.rw [tv, .int .i64 wal, .int .i64 next]) := ⟨_, rfl⟩
    refine wd_heap (h' := h3) (by rw [hh3]; rfl) ?_
    rw [← hh3] at bx3 k3 o3 bxr
    repeat first|(refine BG ?_;first|(refine BH ?_;first|(refine BI ?_;refine BM ?_)|(refine BJ ?_;first|refine BN ?_|refine BO ?_)|refine BV (v_bxn bx3 rfl (Nat.le_refl _)) ?_|refine BP ?_)|(refine BK ?_;first|refine BS rfl rfl ?_|refine BT rfl rfl ?_|refine BU rfl ?_)|(refine BL ?_;first|refine BQ ?_)|(refine BR ?_;try simp only [setS]))|(refine BX ?_;first|refine BY rfl ?_|(refine BZ ?_;refine CA ?_)|refine CB (v_bxn bx3 rfl (Nat.le_refl _)) ?_|refine CC ?_|(refine CD ?_;try simp only [setS]))|refine AA ?_|refine AC ?_|refine AD ?_|refine AE ?_|refine AF rfl rfl ?_|refine AG rfl rfl ?_|refine AH ?_|refine AI ?_|refine AJ ?_|refine AK ?_|refine AL ?_|refine AM ?_|refine AN ?_|refine AO ?_|refine AP ?_|refine AQ rfl ?_|refine AR ?_|refine AS ?_|refine AT rfl ?_|refine AU rfl ?_
    refine wr_call_e rfl ((right_ok hE T.right T.has T.idx o3.rs (by rw [List.length_take]; omega)).mono fun r h4 ⟨k4, e4⟩ => ?_)
    subst e4
    have bx4 := bx3.up k4
    have bxr4 := bxr.up k4
    have K4 : Keep NoB h h4 := ((((hk.and hk').and kk)).own k3 (fun k q => by have q : k = h'.n := q; omega)).and k4
    have o4 := o3.up k4
    cases hm : mayF (L.take c) wal next with
    | false =>
      repeat first|(refine BG ?_;first|(refine BH ?_;first|(refine BI ?_;refine BM ?_)|(refine BJ ?_;first|refine BN ?_|refine BO ?_)|refine BP ?_)|(refine BK ?_;first|refine BS rfl rfl ?_|refine BT rfl rfl ?_|refine BU rfl ?_)|(refine BL ?_;first|refine BW (ef_bxn bxr4 rfl rfl rfl rfl (Nat.le_refl _)) ?_|refine BQ ?_)|(refine BR ?_;try simp only [setS]))|(refine BX ?_;first|refine BY rfl ?_|(refine BZ ?_;refine CA ?_)|refine CC ?_|(refine CD ?_;try simp only [setS]))|refine AA ?_|refine AC ?_|refine AD ?_|refine AE ?_|refine AF rfl rfl ?_|refine AG rfl rfl ?_|refine AH ?_|refine AI ?_|refine AJ ?_|refine AK ?_|refine AL ?_|refine AM ?_|refine AN ?_|refine AO ?_|refine AP ?_|refine AQ rfl ?_|refine AR ?_|refine AS ?_|refine AT rfl ?_|refine AU rfl ?_
      exact AT (res_ldn2 rfl (Hp.put_self _ _ _) (Nat.le_refl _) rfl) ⟨K4.own (Keep.put (S := OneB h.n) _ _ _ rfl) (fun k q => by have q : k = h.n := q; omega), rfl⟩
    | true =>
      repeat first|(refine BG ?_;first|(refine BH ?_;first|(refine BI ?_;refine BM ?_)|(refine BJ ?_;first|refine BN ?_|refine BO ?_)|refine BV (v_bxn bx4 rfl (Nat.le_refl _)) ?_|refine BP ?_)|(refine BK ?_;first|refine BS rfl rfl ?_|refine BT rfl rfl ?_|refine BU rfl ?_)|(refine BL ?_;first|refine BW (ef_bxn bxr4 rfl rfl (one_all3 o4.rs.one.2 rfl rfl) rfl (Nat.le_refl _)) ?_|refine BQ ?_)|(refine BR ?_;try simp only [setS]))|(refine BX ?_;first|refine BY rfl ?_|(refine BZ ?_;refine CA ?_)|refine CB (v_bxn bx4 rfl (Nat.le_refl _)) ?_|refine CC ?_|(refine CD ?_;try simp only [setS]))|refine AA ?_|refine AC ?_|refine AD ?_|refine AE ?_|refine AF rfl rfl ?_|refine AG rfl rfl ?_|refine AH ?_|refine AI ?_|refine AJ ?_|refine AK ?_|refine AL ?_|refine AM ?_|refine AN ?_|refine AO ?_|refine AP ?_|refine AQ rfl ?_|refine AR ?_|refine AS ?_|refine AT rfl ?_|refine AU rfl ?_
      have kz : Keep (OneB h.n) h4 (h4.put h.n (.rw [tv, .int .i64 wal, .int .i64 next])) := Keep.put _ _ _ rfl
      refine AT (res_ldn2 rfl (Hp.put_self _ _ _) (Nat.le_refl _) rfl) ⟨K4.own kz (fun k q => by have q : k = h.n := q; omega), tv, rfl, o4.keep kz (fun k q1 q2 => ?_), fun k q => ?_⟩
      · have := b2 k q1
        have q2 : k = h.n := q2
        omega
      · have := b2 k q
        omega
theorem decode_ok (hE : ∀ f e, E f = some e → e.plain) (T : MfD E) {h : Hp X} {v : AV} {bs : List UInt8} (hr : RS h 1 v bs.length (bs.map ub)) (hb : bs.length ≤ 1099511627776) :
    WF (lim E) 89 [v] h fun r h' => DecPost h (decP bs) r h' := by
  by_cases hx : bs.length < 1 ∨ bs.length ≠ 1 + 3 * ((bs.getD 0 0).toNat + 2)
  · have e : decP bs = none := by unfold decP; rw [if_pos hx]
    rw [e]
    exact decode_bad hE T hr hb hx
  · exact decode_go hE T hr hb hx
end
end Am
end Go.Proofs.Ythgcdoahoechhaa
namespace Go.Proofs.Ythgcdoahoechhaa
namespace Am
open Go.RowKit
set_option maxRecDepth 100000
def b_ref4Num : BF := ⟨35, [0, 1, 4, 5, 6, 17], (.seq (.reg [.mk none (.slot 2) (.mov (.mv (.const (.int .i64 0))))]) (.seq (.reg [.mk none (.env 8) (.mov (.mv (.slot 0))), .mk none (.env 9) (.mov (.nilc (.env 8))), .mk none (.env 10) (.mov (.faddr 0 (.env 9))), .mk none (.env 11) (.mov (.ld1 (.env 10))), .mk none (.env 12) (.mov (.mv (.slot 1))), .mk none (.env 13) (.call 92 [(.env 11), (.env 12)]), .mk none (.env 7) (.mov (.mv (.env 13))), .mk none (.env 14) (.mov (.ext 0 (.env 7))), .mk none (.env 15) (.mov (.ext 1 (.env 7))), .mk none (.slot 3) (.mov (.mv (.env 14))), .mk none (.slot 4) (.mov (.mv (.env 15)))]) (.seq (.seq (.reg [.mk none (.env 16) (.mov (.mv (.slot 4))), .mk none (.slot 5) (.mov (.notb (.env 16)))]) (.cond (.slot 5) (.seq (.reg [.mk none (.env 18) (.mov (.mv (.slot 0))), .mk none (.env 19) (.mov (.mv (.slot 0))), .mk none (.env 20) (.mov (.nilc (.env 18))), .mk none (.env 21) (.mov (.faddr 1 (.env 20))), .mk none .none (.eff (.store 1 (.env 21) (.const (.bool true)))), .mk none (.env 22) (.mov (.nilc (.env 19))), .mk none (.env 23) (.mov (.faddr 0 (.env 22))), .mk none .none (.eff (.store 1 (.env 23) (.const .snil)))]) (.seq (.reg [.mk none (.slot 2) (.mov (.mv (.const (.int .i64 0))))]) .ret)) .skip)) (.seq (.reg [.mk none (.env 24) (.mov (.mv (.slot 0))), .mk none (.env 25) (.mov (.mv (.slot 0))), .mk none (.env 26) (.mov (.nilc (.env 25))), .mk none (.env 27) (.mov (.faddr 0 (.env 26))), .mk none (.env 28) (.mov (.ld1 (.env 27))), .mk none (.env 29) (.mov (.mv (.slot 1))), .mk none (.env 30) (.mov (.sl 1 (.env 28) (some (.env 29)) none none)), .mk none (.env 31) (.mov (.nilc (.env 24))), .mk none (.env 32) (.mov (.faddr 0 (.env 31))), .mk none .none (.eff (.store 1 (.env 32) (.env 30)))]) (.seq (.reg [.mk none (.env 33) (.mov (.mv (.slot 3))), .mk none (.env 34) (.mov (.conv .i64 (.env 33))), .mk none (.slot 2) (.mov (.mv (.env 34)))]) .ret))))), [.slot (.slot 2)]⟩
def b_ref10Decode : BF := ⟨51, [0, 2, 3, 4, 5, 6, 7, 8, 9, 10, 17, 47], (.seq (.reg [.mk none (.slot 1) (.mov (.mv (.const .snil))), .mk none (.slot 2) (.mov (.mv (.const (.int .i64 0)))), .mk none (.slot 3) (.mov (.mv (.const (.int .i64 0)))), .mk none (.slot 4) (.mov (.mv (.const (.bool false))))]) (.seq (.reg [.mk none (.env 11) (.mov (.mv (.slot 0))), .mk none (.env 12) (.mov (.bld [.snil, (.bool false)] [(0, 1, (.env 11))])), .mk none (.env 13) (.eff (.box (.env 12))), .mk none (.slot 5) (.mov (.mv (.env 13)))]) (.seq (.reg [.mk none (.slot 6) (.mov (.mv (.const .snil)))]) (.seq (.seq (.reg [.mk none (.env 14) (.mov (.mv (.slot 5))), .mk none (.env 15) (.call 93 [(.env 14), (.const (.int .i64 1))]), .mk none (.slot 7) (.mov (.mv (.env 15)))]) (.block 0 (.loop (.seq (.seq (.reg [.mk none (.env 16) (.mov (.mv (.slot 7))), .mk none (.slot 10) (.mov (.bin .gtr .no (.env 16) (.const (.int .i64 0))))]) (.cond (.slot 10) .skip (.exit 0))) (.seq (.block 1 (.reg [.mk none (.env 20) (.mov (.mv (.slot 6))), .mk none (.env 21) (.mov (.mv (.slot 5))), .mk none (.env 22) (.call 93 [(.env 21), (.const (.int .i64 3))]), .mk none (.env 23) (.eff (.bslice 1 1 [(.int .i64 0)] [(0, 1, (.env 22))])), .mk none (.env 24) (.eff (.append 1 8 (.env 20) (.env 23))), .mk none (.slot 6) (.mov (.mv (.env 24)))])) (.reg [.mk none (.env 18) (.mov (.mv (.slot 7))), .mk none (.env 19) (.mov (.bin .sub .no (.env 18) (.const (.int .i64 1)))), .mk none (.slot 7) (.mov (.mv (.env 19)))])))))) (.seq (.reg [.mk none (.env 25) (.mov (.mv (.slot 5))), .mk none (.env 26) (.call 93 [(.env 25), (.const (.int .i64 3))]), .mk none (.env 27) (.mov (.mv (.slot 5))), .mk none (.env 28) (.call 93 [(.env 27), (.const (.int .i64 3))]), .mk none (.slot 8) (.mov (.mv (.env 26))), .mk none (.slot 9) (.mov (.mv (.env 28)))]) (.seq (.seq (.reg [.mk none (.env 29) (.mov (.mv (.slot 5))), .mk none (.env 30) (.mov (.nilc (.env 29))), .mk none (.env 31) (.mov (.faddr 1 (.env 30))), .mk none (.env 32) (.mov (.ld1 (.env 31))), .mk none (.env 33) (.mov (.mv (.env 32))), .mk (some ((.env 33), false)) (.env 34) (.mov (.mv (.slot 5))), .mk (some ((.env 33), false)) (.env 35) (.mov (.nilc (.env 34))), .mk (some ((.env 33), false)) (.env 36) (.mov (.faddr 0 (.env 35))), .mk (some ((.env 33), false)) (.env 37) (.mov (.ld1 (.env 36))), .mk (some ((.env 33), false)) (.env 38) (.mov (.lenv (.env 37))), .mk (some ((.env 33), false)) (.env 39) (.mov (.bin .gtr .no (.env 38) (.const (.int .i64 0)))), .mk none (.env 40) (.mov (.pick (.env 33) (.const (.bool true)) (.env 39))), .mk none (.env 41) (.mov (.mv (.env 40))), .mk (some ((.env 41), false)) (.env 42) (.mov (.mv (.slot 6))), .mk (some ((.env 41), false)) (.env 43) (.mov (.mv (.slot 8))), .mk (some ((.env 41), false)) (.env 44) (.mov (.mv (.slot 9))), .mk (some ((.env 41), false)) (.env 45) (.call 88 [(.env 42), (.env 43), (.env 44)]), .mk (some ((.env 41), false)) (.env 46) (.mov (.notb (.env 45))), .mk none (.slot 11) (.mov (.pick (.env 41) (.const (.bool true)) (.env 46)))]) (.cond (.slot 11) (.seq (.reg [.mk none (.slot 1) (.mov (.mv (.const .snil))), .mk none (.slot 2) (.mov (.mv (.const (.int .i64 0)))), .mk none (.slot 3) (.mov (.mv (.const (.int .i64 0)))), .mk none (.slot 4) (.mov (.mv (.const (.bool false))))]) .ret) .skip)) (.seq (.reg [.mk none (.env 48) (.mov (.mv (.slot 6))), .mk none (.env 49) (.mov (.mv (.slot 8))), .mk none (.env 50) (.mov (.mv (.slot 9))), .mk none (.slot 1) (.mov (.mv (.env 48))), .mk none (.slot 2) (.mov (.mv (.env 49))), .mk none (.slot 3) (.mov (.mv (.env 50))), .mk none (.slot 4) (.mov (.mv (.const (.bool true))))]) .ret))))))), [.slot (.slot 1), .slot (.slot 2), .slot (.slot 3), .slot (.slot 4)]⟩
def b_ref10Encode : BF := ⟨33, [0, 1, 2, 6, 7, 8, 16], (.seq (.reg [.mk none (.slot 3) (.mov (.mv (.const .snil)))]) (.seq (.reg [.mk none (.env 9) (.mov (.mv (.slot 0))), .mk none (.env 10) (.mov (.lenv (.env 9))), .mk none (.env 11) (.mov (.conv .u8 (.env 10))), .mk none (.env 12) (.eff (.bslice 1 1 [(.int .u8 0)] [(0, 1, (.env 11))])), .mk none (.slot 4) (.mov (.mv (.env 12)))]) (.seq (.seq (.reg [.mk none (.slot 5) (.mov (.mv (.const (.int .i64 0))))]) (.block 0 (.loop (.seq (.seq (.reg [.mk none (.env 13) (.mov (.mv (.slot 5))), .mk none (.env 14) (.mov (.mv (.slot 0))), .mk none (.env 15) (.mov (.lenv (.env 14))), .mk none (.slot 6) (.mov (.bin .lss .no (.env 13) (.env 15)))]) (.cond (.slot 6) .skip (.exit 0))) (.seq (.block 1 (.reg [.mk none (.env 19) (.mov (.mv (.slot 4))), .mk none (.env 20) (.mov (.mv (.slot 0))), .mk none (.env 21) (.mov (.mv (.slot 5))), .mk none (.env 22) (.mov (.iaddr 1 (.env 20) (.env 21))), .mk none (.env 23) (.mov (.ld1 (.env 22))), .mk none (.env 24) (.mov (.conv .u64 (.env 23))), .mk none (.env 25) (.call 86 [(.env 19), (.env 24), (.const (.int .i64 3))]), .mk none (.slot 4) (.mov (.mv (.env 25)))])) (.reg [.mk none (.env 17) (.mov (.mv (.slot 5))), .mk none (.env 18) (.mov (.bin .add .no (.env 17) (.const (.int .i64 1)))), .mk none (.slot 5) (.mov (.mv (.env 18)))])))))) (.seq (.reg [.mk none (.env 26) (.mov (.mv (.slot 4))), .mk none (.env 27) (.mov (.mv (.slot 1))), .mk none (.env 28) (.mov (.conv .u64 (.env 27))), .mk none (.env 29) (.call 86 [(.env 26), (.env 28), (.const (.int .i64 3))]), .mk none (.env 30) (.mov (.mv (.slot 2))), .mk none (.env 31) (.mov (.conv .u64 (.env 30))), .mk none (.env 32) (.call 86 [(.env 29), (.env 31), (.const (.int .i64 3))]), .mk none (.slot 3) (.mov (.mv (.env 32)))]) .ret)))), [.slot (.slot 3)]⟩
def numF (bs : List UInt8) (bad : Bool) (n : Nat) : Int × List UInt8 × Bool := if n ≤ bs.length then ((be (bs.take n) : Int), bs.drop n, bad) else (0, [], true)
theorem numF_le (bs : List UInt8) (bad : Bool) (n : Nat) : (numF bs bad n).2.1.length ≤ bs.length := by unfold numF; split <;> simp
def numsR : Nat → List UInt8 → Bool → List Int × List UInt8 × Bool
  | 0, bs, bad => ([], bs, bad)
  | k + 1, bs, bad => ((numF bs bad 3).1 :: (numsR k (numF bs bad 3).2.1 (numF bs bad 3).2.2).1, (numsR k (numF bs bad 3).2.1 (numF bs bad 3).2.2).2)
theorem numsR_len : ∀ (k : Nat) (bs : List UInt8) (bad : Bool), (numsR k bs bad).1.length = k
  | 0, _, _ => rfl
  | k + 1, bs, bad => by simp [numsR, numsR_len k]
theorem numsR_le : ∀ (k : Nat) (bs : List UInt8) (bad : Bool), (numsR k bs bad).2.1.length ≤ bs.length
  | 0, _, _ => Nat.le_refl _
  | k + 1, bs, bad => Nat.le_trans (numsR_le k _ _) (numF_le bs bad 3)
noncomputable def rdecF (bs : List UInt8) : Option (List Int × Int × Int) :=
  let a := numF bs false 1
  let q := numsR a.1.toNat a.2.1 a.2.2
  let w := numF q.2.1 q.2.2 3
  let x := numF w.2.1 w.2.2 3
  if x.2.2 = true ∨ 0 < x.2.1.length ∨ mayF q.1 w.1 x.1 = false then none else some (q.1, w.1, x.1)
section
variable {X : Type} {E : Nat → Option (Ent X)}
structure RdB (h : Hp X) (g m : Nat) (bs : List UInt8) (bad : Bool) : Prop where
  mg : m ≤ g
  ok : ∃ bv, Bx h g [bv, .bool bad] ∧ RS h 1 bv bs.length (bs.map ub) ∧ ∀ k, blk bv k → k < m
theorem RdB.up {h h' : Hp X} {g m : Nat} {bs : List UInt8} {bad : Bool} (a : RdB h g m bs bad) (k : Keep NoB h h') : RdB h' g m bs bad := by
  obtain ⟨bv, h1, h2, h3⟩ := a.ok
  exact ⟨a.mg, bv, h1.up k, h2.up k, h3⟩
theorem RdB.keep {S : Nat → Prop} {h h' : Hp X} {g m : Nat} {bs : List UInt8} {bad : Bool} (a : RdB h g m bs bad) (k : Keep S h h') (hs : ∀ j, S j → g < j) : RdB h' g m bs bad := by
  obtain ⟨bv, h1, h2, h3⟩ := a.ok
  have := a.mg
  exact ⟨a.mg, bv, h1.keep k (fun q => by have := hs _ q; omega), h2.keep k (fun j hj q => by have := h3 j hj; have := hs j q; omega), h3⟩
theorem RdB.lt {h : Hp X} {g m : Nat} {bs : List UInt8} {bad : Bool} (a : RdB h g m bs bad) : g < h.n := by
  obtain ⟨bv, h1, _⟩ := a.ok
  exact h1.lt
theorem num_ok (hE : ∀ f e, E f = some e → e.plain) (hf : E 93 = some (.bc b_ref4Num)) (hg : E 92 = some (.bc b_ref2Get)) {h : Hp X} {g m n : Nat} {bs : List UInt8} {bad : Bool} (hr : RdB h g m bs bad) (h7 : n ≤ 7) (hb : bs.length ≤ 1099511627776) :
    WF (lim E) 93 [.ptr g 0, .int .i64 n] h fun r h' => r = .int .i64 (numF bs bad n).1 ∧ RdB h' g m (numF bs bad n).2.1 (numF bs bad n).2.2 ∧ Keep (OneB g) h h' := by
  obtain ⟨bv, h1, h2, h3⟩ := hr.ok
  have hmg := hr.mg
  refine wf_bc hE hf rfl ?_
  simp only [b_ref4Num, List.map, getS]
  repeat first|(refine BG ?_;first|(refine BH ?_;first|(refine BI ?_;refine BM ?_)|(refine BJ ?_;first|refine BN ?_|refine BO ?_)|refine BV (v_nilc rfl) ?_|refine BV (v_bx h1 rfl rfl) ?_|refine BP ?_)|(refine BK ?_;first|refine BS rfl rfl ?_|refine BT rfl rfl ?_|refine BU rfl ?_)|(refine BL ?_;first|refine BQ ?_)|(refine BR ?_;try simp only [setS]))|refine AA ?_|refine AC ?_|refine AD ?_|refine AE ?_|refine AF rfl rfl ?_|refine AG rfl rfl ?_|refine AH ?_|refine AI ?_|refine AJ ?_|refine AK ?_|refine AL ?_|refine AM ?_|refine AN ?_|refine AO ?_|refine AP ?_|refine AQ rfl ?_|refine AR ?_|refine AS ?_|refine AT rfl ?_|refine AU rfl ?_
  unfold numF
  by_cases hn : n ≤ bs.length
  · rw [if_pos hn]
    refine wr_call_e rfl ((rget_ok hE hg h2 (n := n) (by omega) hn).mono fun r h4 ⟨e1, e2⟩ => ?_)
    subst e1 e2
    obtain ⟨v2, s1, s2, s3, s4⟩ := h2.bytes (lo := n) (hi := bs.length) hn (Nat.le_refl _)
    have e1 : (bs.drop n).take (bs.length - n) = bs.drop n := List.take_of_length_le (by rw [List.length_drop]; exact Nat.le_refl _)
    rw [e1] at s1
    have hlt := be_lt (bs.take n)
    have hl0 : (bs.take n).length = n := by rw [List.length_take]; omega
    rw [hl0] at hlt
    have h56 : be (bs.take n) < 72057594037927936 := Nat.lt_of_lt_of_le hlt (Nat.le_trans (Nat.pow_le_pow_right (by omega) h7) (by decide))
    repeat first|(refine BG ?_;first|(refine BH ?_;first|(refine BI ?_;refine BM ?_)|(refine BJ ?_;first|refine BN ?_|refine BO ?_)|refine BV (v_nilc rfl) ?_|refine BV (v_bx h1 rfl rfl) ?_|refine BV (s4 (by rfl) (.inr ⟨_, _, rfl, rfl⟩) (.inl ⟨rfl, rfl⟩)) ?_|refine BV (v_conv_i64 rfl (by omega)) ?_|refine BP ?_)|(refine BK ?_;first|refine BS rfl rfl ?_|refine BT rfl rfl ?_|refine BU rfl ?_)|(refine BL ?_;first|refine BW (ef_bx h1 rfl rfl s1.one (Nat.zero_lt_succ _)) ?_|refine BQ ?_)|(refine BR ?_;try simp only [setS]))|refine AA ?_|refine AC ?_|refine AD ?_|refine AE ?_|refine AF rfl rfl ?_|refine AG rfl rfl ?_|refine AH ?_|refine AI ?_|refine AJ ?_|refine AK ?_|refine AL ?_|refine AM ?_|refine AN ?_|refine AO ?_|refine AP ?_|refine AQ rfl ?_|refine AR ?_|refine AS ?_|refine AT rfl ?_|refine AU rfl ?_
    have kp : Keep (OneB g) h4 (h4.put g (.rw (spl 0 [v2] [bv, .bool bad]))) := Keep.put _ _ _ rfl
    exact ⟨rfl, ⟨hmg, v2, h1.put, s1.keep kp (fun k hk q => by have := h3 k (s2 k hk); have q : k = g := q; omega), fun k hk => h3 k (s2 k hk)⟩, kp⟩
  · rw [if_neg hn]
    refine wr_call_e rfl ((rget_no hE hg h2 (n := n) (by omega)).mono fun r h4 ⟨e1, e2⟩ => ?_)
    subst e1 e2
    have h5 : Bx (h4.put g (.rw [bv, .bool true])) g [bv, .bool true] := h1.put
    repeat first|(refine BG ?_;first|(refine BH ?_;first|(refine BI ?_;refine BM ?_)|(refine BJ ?_;first|refine BN ?_|refine BO ?_)|refine BV (v_nilc rfl) ?_|refine BV (v_bx h1 rfl rfl) ?_|refine BP ?_)|(refine BK ?_;first|refine BS rfl rfl ?_|refine BT rfl rfl ?_|refine BU rfl ?_)|(refine BL ?_;first|refine BW (ef_bx h1 rfl rfl ⟨rfl, rfl⟩ (Nat.lt_succ_self 1)) ?_|refine BW (ef_bx h5 rfl rfl ⟨rfl, rfl⟩ (Nat.zero_lt_succ _)) ?_|refine BQ ?_)|(refine BR ?_;try simp only [setS]))|refine AA ?_|refine AC ?_|refine AD ?_|refine AE ?_|refine AF rfl rfl ?_|refine AG rfl rfl ?_|refine AH ?_|refine AI ?_|refine AJ ?_|refine AK ?_|refine AL ?_|refine AM ?_|refine AN ?_|refine AO ?_|refine AP ?_|refine AQ rfl ?_|refine AR ?_|refine AS ?_|refine AT rfl ?_|refine AU rfl ?_
    have k1 : Keep (OneB g) h4 (h4.put g (.rw [bv, .bool true])) := Keep.put _ _ _ rfl
    have k2 : Keep (OneB g) (h4.put g (.rw [bv, .bool true])) ((h4.put g (.rw [bv, .bool true])).put g (.rw [.snil, .bool true])) := Keep.put _ _ _ rfl
    exact ⟨rfl, ⟨hmg, .snil, h5.put, ⟨rfl, rfl⟩, fun k q => q.elim⟩, k1.trans k2 (fun _ _ q => q)⟩
structure MfR (E : Nat → Option (Ent X)) : Prop where
  num : E 93 = some (.bc b_ref4Num)
  rget : E 92 = some (.bc b_ref2Get)
  may : E 88 = some (.bc b_ref10May)
  dec : E 46 = some (.bc b_ref10Decode)
def RDecPost (h : Hp X) (o : Option (List Int × Int × Int)) (r : AV) (h' : Hp X) : Prop := Keep NoB h h' ∧ match o with
  | none => r = .tup [.snil, .int .i64 0, .int .i64 0, .bool false]
  | some (ts, w, n) => ∃ tv, r = .tup [tv, .int .i64 w, .int .i64 n, .bool true] ∧ OS h' 1 tv ts.length (ts.map iv) ∧ ∀ k, blk tv k → h.n ≤ k
theorem ef_box2 {e : En} {t : List AV} {h : Hp X} {x : Od} {a : AV} {c : Bool} (hx : x.ev e t = .agg [a, .bool c]) (ha : a.one = true) : (Ef.box x).ev e t h = some (.ptr h.n 0, h.push (.rw [a, .bool c])) :=
  ef_box hx (by unfold allOne; cases a <;> first | (cases ha; done) | rfl)
theorem v_bld2 {e : En} {t : List AV} {h : Hp X} {z0 z1 : AV} {x : Od} {a : AV} (hx : x.ev e t = a) (ha : cellsOf a = some [a]) : (Mv.bld [z0, z1] [(0, 1, x)]).ev e t h = some (.agg [a, z1]) := by
  simp only [Mv.ev, List.map, hx, fillA, ha]
  rfl
set_option maxHeartbeats 4000000 in
theorem rdec_ok (hE : ∀ f e, E f = some e → e.plain) (T : MfR E) {h : Hp X} {v : AV} {bs : List UInt8} (hr : RS h 1 v bs.length (bs.map ub)) (hb : bs.length ≤ 1099511627776) :
    WF (lim E) 46 [v] h fun r h' => RDecPost h (rdecF bs) r h' := by
  refine wf_bc hE T.dec rfl ?_
  simp only [b_ref10Decode, List.map, getS]
  have hmx : (maxLen : Nat) = 9223372036854775807 := rfl
  repeat first|(refine BG ?_;first|(refine BH ?_;first|(refine BI ?_;refine BM ?_)|(refine BJ ?_;first|refine BN ?_|refine BO ?_)|refine BV (v_bld2 rfl hr.one.1) ?_|refine BP ?_)|(refine BK ?_;first|refine BS rfl rfl ?_|refine BT rfl rfl ?_|refine BU rfl ?_)|(refine BL ?_;first|refine BW (ef_box2 rfl hr.one.2) ?_|refine BQ ?_)|(refine BR ?_;try simp only [setS]))|refine AA ?_|refine AC ?_|refine AD ?_|refine AE ?_|refine AF rfl rfl ?_|refine AG rfl rfl ?_|refine AH ?_|refine AI ?_|refine AJ ?_|refine AK ?_|refine AL ?_|refine AM ?_|refine AN ?_|refine AO ?_|refine AP ?_|refine AQ rfl ?_|refine AR ?_|refine AS ?_|refine AT rfl ?_|refine AU rfl ?_
  have R1 : RdB (h.push (.rw [v, .bool false])) h.n h.n bs false := ⟨Nat.le_refl _, v, bx_push, hr.up (Keep.push _ _ _), fun k hk => hr.lt k hk⟩
  have K1 : Keep NoB h (h.push (.rw [v, .bool false])) := Keep.push _ _ _
  obtain ⟨h1, hh1⟩ : ∃ h1 : Hp X, h1 = h.push (.rw [v, .bool false]) := ⟨_, rfl⟩
  have n1 : h1.n = h.n + 1 := by rw [hh1]; rfl
  refine wr_heap hh1.symm ?_
  rw [← hh1] at R1 K1
  refine wr_call_e rfl ((num_ok hE T.num T.rget (n := 1) R1 (by omega) hb).mono fun r h2 ⟨e2, R2, k2⟩ => ?_)
  subst e2
  have K2 := K1.own k2 (fun k q => by have q : k = h.n := q; omega)
  unfold rdecF
  have hl2 := numF_le bs false 1
  have hn0 : 0 ≤ (numF bs false 1).1 := by unfold numF; split <;> simp
  have hn256 : (numF bs false 1).1 < 256 := by
    unfold numF
    split
    · have := be_lt (bs.take 1)
      have h1 : (bs.take 1).length ≤ 1 := by rw [List.length_take]; omega
      have := Nat.lt_of_lt_of_le this (Nat.pow_le_pow_right (by omega) h1)
      simp only; omega
    · simp
  simp only
  generalize numF bs false 1 = a at *
  obtain ⟨c, hc⟩ := Int.eq_ofNat_of_zero_le hn0
  rw [hc, Int.toNat_natCast]
  have hql := numsR_len c a.2.1 a.2.2
  have hqe := numsR_le c a.2.1 a.2.2
  have hQ : ∃ Q, numsR c a.2.1 a.2.2 = Q := ⟨_, rfl⟩
  obtain ⟨Q, hQ⟩ := hQ
  rw [hQ] at hql hqe ⊢
  repeat first|(refine BG ?_;first|(refine BH ?_;first|(refine BI ?_;refine BM ?_)|(refine BJ ?_;first|refine BN ?_|refine BO ?_)|refine BP ?_)|(refine BK ?_;first|refine BS rfl rfl ?_|refine BT rfl rfl ?_|refine BU rfl ?_)|(refine BL ?_;first|refine BQ ?_)|(refine BR ?_;try simp only [setS]))|refine AA ?_|refine AC ?_|refine AD ?_|refine AE ?_|refine AF rfl rfl ?_|refine AG rfl rfl ?_|refine AH ?_|refine AI ?_|refine AJ ?_|refine AK ?_|refine AL ?_|refine AM ?_|refine AN ?_|refine AO ?_|refine AP ?_|refine AQ rfl ?_|refine AR ?_|refine AS ?_|refine AT rfl ?_|refine AU rfl ?_
  refine wb_loop (fun k t h' => ∃ (nv s8 s9 s10 s11 : AV) (pre : List Int) (bs' : List UInt8) (bad' : Bool), Keep NoB h h' ∧ RdB h' h.n h.n bs' bad' ∧ bs'.length ≤ bs.length ∧ OS h' 1 nv pre.length (pre.map iv) ∧ (∀ j, blk nv j → h.n < j) ∧ pre.length + k = c ∧ pre ++ (numsR k bs' bad').1 = Q.1 ∧ (numsR k bs' bad').2 = Q.2 ∧
    t = [v, .snil, .int .i64 0, .int .i64 0, .bool false, .ptr h.n 0, nv, .int .i64 k, s8, s9, s10, s11]) ?_ c _ _ ⟨.snil, _, _, _, _, [], a.2.1, a.2.2, K2, R2, hl2, ⟨rfl, rfl⟩, (fun j q => q.elim), by simp, by rw [hQ]; simp, by rw [hQ], rfl⟩
  rintro k t h' ⟨nv, s8, s9, s10, s11, pre, bs', bad', K3, R3, hl3, o3, b3, hk3, q1, q2, rfl⟩
  by_cases hk : 0 < k
  · obtain ⟨k, rfl⟩ : ∃ k', k = k' + 1 := ⟨k - 1, by omega⟩
    repeat first|(refine BG ?_;first|(refine BH ?_;first|(refine BI ?_;refine BM ?_)|(refine BJ ?_;first|refine BN ?_|refine BO ?_)|refine BP ?_)|(refine BK ?_;first|refine BS rfl rfl ?_|refine BT rfl rfl ?_|refine BU rfl ?_)|(refine BL ?_;first|refine BQ ?_)|(refine BR ?_;try simp only [setS]))|refine AA ?_|refine AC ?_|refine AD ?_|refine AE ?_|refine AF rfl rfl ?_|refine AG rfl rfl ?_|refine AH ?_|refine AI ?_|refine AJ ?_|refine AK ?_|refine AL ?_|refine AM ?_|refine AN ?_|refine AO ?_|refine AP ?_|refine AQ rfl ?_|refine AR ?_|refine AS ?_|refine AT rfl ?_|refine AU rfl ?_
    refine wr_call_e rfl ((num_ok hE T.num T.rget (n := 3) R3 (by omega) (by omega)).mono fun r h4 ⟨e4, R4, k4⟩ => ?_)
    subst e4
    simp only [numsR] at q1 q2
    have hl4 := numF_le bs' bad' 3
    generalize numF bs' bad' 3 = x at *
    have K4 := K3.own k4 (fun k q => by have q : k = h.n := q; omega)
    have o4 := o3.keep k4 (fun j hj q => by have := b3 j hj; have q : j = h.n := q; omega)
    repeat first|(refine BG ?_;first|(refine BH ?_;first|(refine BI ?_;refine BM ?_)|(refine BJ ?_;first|refine BN ?_|refine BO ?_)|refine BP ?_)|(refine BK ?_;first|refine BS rfl rfl ?_|refine BT rfl rfl ?_|refine BU rfl ?_)|(refine BL ?_;first|refine BW (ef_bs1 rfl) ?_|refine BQ ?_)|(refine BR ?_;try simp only [setS]))|refine AA ?_|refine AC ?_|refine AD ?_|refine AE ?_|refine AF rfl rfl ?_|refine AG rfl rfl ?_|refine AH ?_|refine AI ?_|refine AJ ?_|refine AK ?_|refine AL ?_|refine AM ?_|refine AN ?_|refine AO ?_|refine AP ?_|refine AQ rfl ?_|refine AR ?_|refine AS ?_|refine AT rfl ?_|refine AU rfl ?_
    refine wr_app_e rfl rfl (o4.up (Keep.push NoB h4 _)) Nat.zero_lt_one (rs_push (l := [_]) rfl) (by omega) (by omega) fun nv' h5 a1 a2 a3 => ?_
    repeat first|(refine BG ?_;first|(refine BH ?_;first|(refine BI ?_;refine BM ?_)|(refine BJ ?_;first|refine BN ?_|refine BO ?_)|refine BP ?_)|(refine BK ?_;first|refine BS rfl rfl ?_|refine BT rfl rfl ?_|refine BU rfl ?_)|(refine BL ?_;first|refine BQ ?_)|(refine BR ?_;try simp only [setS]))|refine AA ?_|refine AC ?_|refine AD ?_|refine AE ?_|refine AF rfl rfl ?_|refine AG rfl rfl ?_|refine AH ?_|refine AI ?_|refine AJ ?_|refine AK ?_|refine AL ?_|refine AM ?_|refine AN ?_|refine AO ?_|refine AP ?_|refine AQ rfl ?_|refine AR ?_|refine AS ?_|refine AT rfl ?_|refine AU rfl ?_
    have n4 := K4.n
    have hnn := R4.lt
    rw [show (((k + 1 : Nat) : Int) - 1) = (k : Int) by omega]
    refine round_norm k (Nat.lt_succ_self _) ⟨nv', _, _, _, _, pre ++ [x.1], x.2.1, x.2.2, (K4.and (Keep.push NoB h4 _)).own a2 (fun j q => by have := b3 j q; omega), ?_, by omega, ?_, fun j q => ?_, by simp; omega, by rw [← q1]; simp, q2, rfl⟩
    · exact (R4.up (Keep.push NoB h4 _)).keep a2 b3
    · rw [List.length_append, List.map_append]
      exact a1
    · rcases a3 j q with q | q
      · exact b3 j q
      · simp only [push_n] at q; omega
  · have hk0 : k = 0 := by omega
    subst hk0
    simp only [numsR, List.append_nil] at q1 q2
    repeat first|(refine BG ?_;first|(refine BH ?_;first|(refine BI ?_;refine BM ?_)|(refine BJ ?_;first|refine BN ?_|refine BO ?_)|refine BP ?_)|(refine BK ?_;first|refine BS rfl rfl ?_|refine BT rfl rfl ?_|refine BU rfl ?_)|(refine BL ?_;first|refine BQ ?_)|(refine BR ?_;try simp only [setS]))|refine AA ?_|refine AC ?_|refine AD ?_|refine AE ?_|refine AF rfl rfl ?_|refine AG rfl rfl ?_|refine AH ?_|refine AI ?_|refine AJ ?_|refine AK ?_|refine AL ?_|refine AM ?_|refine AN ?_|refine AO ?_|refine AP ?_|refine AQ rfl ?_|refine AR ?_|refine AS ?_|refine AT rfl ?_|refine AU rfl ?_
    refine wr_call_e rfl ((num_ok hE T.num T.rget (n := 3) R3 (by omega) (by omega)).mono fun r h4 ⟨e4, R4, k4⟩ => ?_)
    subst e4
    rw [← q2]
    have hl4 := numF_le bs' bad' 3
    generalize numF bs' bad' 3 = w at *
    have K4 := K3.own k4 (fun k q => by have q : k = h.n := q; omega)
    have o4 := o3.keep k4 (fun j hj q => by have := b3 j hj; have q : j = h.n := q; omega)
    repeat first|(refine BG ?_;first|(refine BH ?_;first|(refine BI ?_;refine BM ?_)|(refine BJ ?_;first|refine BN ?_|refine BO ?_)|refine BP ?_)|(refine BK ?_;first|refine BS rfl rfl ?_|refine BT rfl rfl ?_|refine BU rfl ?_)|(refine BL ?_;first|refine BQ ?_)|(refine BR ?_;try simp only [setS]))|refine AA ?_|refine AC ?_|refine AD ?_|refine AE ?_|refine AF rfl rfl ?_|refine AG rfl rfl ?_|refine AH ?_|refine AI ?_|refine AJ ?_|refine AK ?_|refine AL ?_|refine AM ?_|refine AN ?_|refine AO ?_|refine AP ?_|refine AQ rfl ?_|refine AR ?_|refine AS ?_|refine AT rfl ?_|refine AU rfl ?_
    refine wr_call_e rfl ((num_ok hE T.num T.rget (n := 3) R4 (by omega) (by omega)).mono fun r h5 ⟨e5, R5, k5⟩ => ?_)
    subst e5
    have hl5 := numF_le w.2.1 w.2.2 3
    generalize numF w.2.1 w.2.2 3 = x at *
    have K5 := K4.own k5 (fun k q => by have q : k = h.n := q; omega)
    have o5 := o4.keep k5 (fun j hj q => by have := b3 j hj; have q : j = h.n := q; omega)
    rw [← q1]
    obtain ⟨xn, xb, xbad⟩ := x
    simp only at R5 hl5 ⊢
    obtain ⟨bv, z1, z2, z3⟩ := R5.ok
    cases xbad with
    | true =>
      repeat first|(refine BG ?_;first|(refine BH ?_;first|(refine BI ?_;refine BM ?_)|(refine BJ ?_;first|refine BN ?_|refine BO ?_)|refine BV (v_nilc rfl) ?_|refine BV (v_bx z1 rfl rfl) ?_|refine BP ?_)|(refine BK ?_;first|refine BS rfl rfl ?_|refine BT rfl rfl ?_|refine BU rfl ?_)|(refine BL ?_;first|refine BQ ?_)|(refine BR ?_;try simp only [setS]))|refine AA ?_|refine AC ?_|refine AD ?_|refine AE ?_|refine AF rfl rfl ?_|refine AG rfl rfl ?_|refine AH ?_|refine AI ?_|refine AJ ?_|refine AK ?_|refine AL ?_|refine AM ?_|refine AN ?_|refine AO ?_|refine AP ?_|refine AQ rfl ?_|refine AR ?_|refine AS ?_|refine AT rfl ?_|refine AU rfl ?_
      exact ⟨K5, by simp; rfl⟩
    | false =>
      by_cases hx : 0 < xb.length
      · have hx' : (0 : Int) < xb.length := by omega
        repeat first|(refine BG ?_;first|(refine BH ?_;first|(refine BI ?_;refine BM ?_)|(refine BJ ?_;first|refine BN ?_|refine BO ?_)|refine BV (v_nilc rfl) ?_|refine BV (v_bx z1 rfl rfl) ?_|refine BV (z2.lenv (by rfl)) ?_|refine BP ?_)|(refine BK ?_;first|refine BS rfl rfl ?_|refine BT rfl rfl ?_|refine BU rfl ?_)|(refine BL ?_;first|refine BQ ?_)|(refine BR ?_;try simp only [setS]))|refine AA ?_|refine AC ?_|refine AD ?_|refine AE ?_|refine AF rfl rfl ?_|refine AG rfl rfl ?_|refine AH ?_|refine AI ?_|refine AJ ?_|refine AK ?_|refine AL ?_|refine AM ?_|refine AN ?_|refine AO ?_|refine AP ?_|refine AQ rfl ?_|refine AR ?_|refine AS ?_|refine AT rfl ?_|refine AU rfl ?_
        exact ⟨K5, by rw [if_pos (.inr (.inl hx))]; rfl⟩
      · have hx' : ¬ (0 : Int) < xb.length := by omega
        repeat first|(refine BG ?_;first|(refine BH ?_;first|(refine BI ?_;refine BM ?_)|(refine BJ ?_;first|refine BN ?_|refine BO ?_)|refine BV (v_nilc rfl) ?_|refine BV (v_bx z1 rfl rfl) ?_|refine BV (z2.lenv (by rfl)) ?_|refine BP ?_)|(refine BK ?_;first|refine BS rfl rfl ?_|refine BT rfl rfl ?_|refine BU rfl ?_)|(refine BL ?_;first|refine BQ ?_)|(refine BR ?_;try simp only [setS]))|refine AA ?_|refine AC ?_|refine AD ?_|refine AE ?_|refine AF rfl rfl ?_|refine AG rfl rfl ?_|refine AH ?_|refine AI ?_|refine AJ ?_|refine AK ?_|refine AL ?_|refine AM ?_|refine AN ?_|refine AO ?_|refine AP ?_|refine AQ rfl ?_|refine AR ?_|refine AS ?_|refine AT rfl ?_|refine AU rfl ?_
        refine wr_call_e rfl ((may_ok hE T.may (wal := w.1) (next := xn) o5.rs (by omega)).mono fun r h6 ⟨e6, e7⟩ => ?_)
        subst e6 e7
        cases hm : mayF pre w.1 xn with
        | false =>
          repeat first|(refine BG ?_;first|(refine BH ?_;first|(refine BI ?_;refine BM ?_)|(refine BJ ?_;first|refine BN ?_|refine BO ?_)|refine BP ?_)|(refine BK ?_;first|refine BS rfl rfl ?_|refine BT rfl rfl ?_|refine BU rfl ?_)|(refine BL ?_;first|refine BQ ?_)|(refine BR ?_;try simp only [setS]))|refine AA ?_|refine AC ?_|refine AD ?_|refine AE ?_|refine AF rfl rfl ?_|refine AG rfl rfl ?_|refine AH ?_|refine AI ?_|refine AJ ?_|refine AK ?_|refine AL ?_|refine AM ?_|refine AN ?_|refine AO ?_|refine AP ?_|refine AQ rfl ?_|refine AR ?_|refine AS ?_|refine AT rfl ?_|refine AU rfl ?_
          exact ⟨K5, by rw [if_pos (.inr (.inr (by trivial)))]; rfl⟩
        | true =>
          repeat first|(refine BG ?_;first|(refine BH ?_;first|(refine BI ?_;refine BM ?_)|(refine BJ ?_;first|refine BN ?_|refine BO ?_)|refine BP ?_)|(refine BK ?_;first|refine BS rfl rfl ?_|refine BT rfl rfl ?_|refine BU rfl ?_)|(refine BL ?_;first|refine BQ ?_)|(refine BR ?_;try simp only [setS]))|refine AA ?_|refine AC ?_|refine AD ?_|refine AE ?_|refine AF rfl rfl ?_|refine AG rfl rfl ?_|refine AH ?_|refine AI ?_|refine AJ ?_|refine AK ?_|refine AL ?_|refine AM ?_|refine AN ?_|refine AO ?_|refine AP ?_|refine AQ rfl ?_|refine AR ?_|refine AS ?_|refine AT rfl ?_|refine AU rfl ?_
          refine ⟨K5, ?_⟩
          rw [if_neg (by rintro (q | q | q); cases q; exact hx q; cases q)]
          exact ⟨nv, rfl, o5, fun j q => Nat.le_of_lt (b3 j q)⟩
theorem OS.map0 {h : Hp X} {v : AV} {n : Nat} {cells cells' : List AV} (a : OS h 1 v n cells) (e : cells = cells') : OS h 1 v n cells' := e ▸ a
structure MfT (E : Nat → Option (Ent X)) : Prop where
  rput : E 86 = some (.bc b_ref2Put)
  enc : E 35 = some (.bc b_ref10Encode)
set_option maxHeartbeats 4000000 in
theorem renc_ok (hE : ∀ f e, E f = some e → e.plain) (T : MfT E) {h : Hp X} {v : AV} {l : List Int} {wal next : Int} (hr : RS h 1 v l.length (l.map iv)) (hm : MayP l wal next) :
    WF (lim E) 35 [v, .int .i64 wal, .int .i64 next] h fun r h' => Own1 h h' r ∧ OS h' 1 r (encM l wal next).length ((encM l wal next).map ub) := by
  refine wf_bc hE T.enc rfl ?_
  simp only [b_ref10Encode, List.map, getS]
  have hmx : (maxLen : Nat) = 9223372036854775807 := rfl
  have hlen := hm.len
  repeat first|(refine BG ?_;first|(refine BH ?_;first|(refine BI ?_;refine BM ?_)|(refine BJ ?_;first|refine BN ?_|refine BO ?_)|refine BV (hr.lenv (by rfl)) ?_|refine BV (v_conv_u8 rfl) ?_|refine BP ?_)|(refine BK ?_;first|refine BS rfl rfl ?_|refine BT rfl rfl ?_|refine BU rfl ?_)|(refine BL ?_;first|refine BW (ef_bs1u rfl) ?_|refine BQ ?_)|(refine BR ?_;try simp only [setS]))|refine AA ?_|refine AC ?_|refine AD ?_|refine AE ?_|refine AF rfl rfl ?_|refine AG rfl rfl ?_|refine AH ?_|refine AI ?_|refine AJ ?_|refine AK ?_|refine AL ?_|refine AM ?_|refine AN ?_|refine AO ?_|refine AP ?_|refine AQ rfl ?_|refine AR ?_|refine AS ?_|refine AT rfl ?_|refine AU rfl ?_
  refine wb_loop (fun n t h' => ∃ (i : Nat) (bv s6 s7 : AV), i ≤ l.length ∧ n = l.length - i ∧ Keep NoB h h' ∧ (∀ k, blk bv k → h.n ≤ k) ∧ OS h' 1 bv (1 + 3 * i) ((UInt8.ofNat l.length :: (l.take i).flatMap encI).map ub) ∧
    t = [v, .int .i64 wal, .int .i64 next, .snil, bv, .int .i64 i, s6]) ?_ l.length _ _ ⟨0, _, _, .bot, by omega, by omega, Keep.push _ _ _, ?_, os_push1, rfl⟩
  case refine_2 => intro k q; have q : k = h.n := q; omega
  rintro n t h' ⟨i, bv, s6, s7, hi, hn, K, hb, ob, rfl⟩
  have hr' := hr.up K
  have oput : ∀ {hh : Hp X} {b : AV} {m n : Nat} {x : Int} {bs : List UInt8}, OS hh 1 b n (bs.map ub) → n ≤ 1000000 → (x = (m : Int)) → WF (lim E) 86 [b, .int .u64 (m : Int), .int .i64 3] hh fun r h' => Own1 hh h' r ∧ OS h' 1 r (n + 3) ((bs ++ encI x).map ub) := fun {hh b m n x bs} o hn hx => by
    refine (rput_ok hE T.rput o.rs (by omega) (m := m) (size := 3) (k := 3) (by decide)).mono fun r h7 ⟨q1, q2⟩ => ⟨q1, ?_⟩
    subst hx
    rw [List.map_append]
    rw [encK_map] at q2
    exact q2
  by_cases hlt : (i : Int) < l.length
  · obtain ⟨gg, o, ha, hl⟩ := hr'.at1 (i := i) (by omega) hlt
    rw [map_at (i := i) (by omega) hlt] at hl
    rw [Int.toNat_natCast] at hl
    have hft := flat_take (l := l) (i := i) (by omega)
    have hy := hm.all (l.getD i 0) (by rw [List.getD_eq_getElem?_getD, List.getElem?_eq_getElem (by omega)]; exact List.getElem_mem _)
    have htop := hm.top
    generalize l.getD i 0 = y at hl hft hy
    obtain ⟨m, rfl⟩ := Int.eq_ofNat_of_zero_le hy.1
    repeat first|(refine BG ?_;first|(refine BH ?_;first|(refine BI ?_;refine BM ?_)|(refine BJ ?_;first|refine BN ?_|refine BO ?_)|refine BV (hr'.lenv (by rfl)) ?_|refine BV (ha rfl rfl) ?_|refine BV (hl rfl) ?_|refine BV (v_conv_u64 rfl (by omega)) ?_|refine BP ?_)|(refine BK ?_;first|refine BS rfl rfl ?_|refine BT rfl rfl ?_|refine BU rfl ?_)|(refine BL ?_;first|refine BQ ?_)|(refine BR ?_;try simp only [setS]))|refine AA ?_|refine AC ?_|refine AD ?_|refine AE ?_|refine AF rfl rfl ?_|refine AG rfl rfl ?_|refine AH ?_|refine AI ?_|refine AJ ?_|refine AK ?_|refine AL ?_|refine AM ?_|refine AN ?_|refine AO ?_|refine AP ?_|refine AQ rfl ?_|refine AR ?_|refine AS ?_|refine AT rfl ?_|refine AU rfl ?_
    refine wr_call_e rfl ((oput (x := (m : Int)) ob (by omega) rfl).mono fun r h7 ⟨⟨k7, b7⟩, o7⟩ => ?_)
    repeat first|(refine BG ?_;first|(refine BH ?_;first|(refine BI ?_;refine BM ?_)|(refine BJ ?_;first|refine BN ?_|refine BO ?_)|refine BP ?_)|(refine BK ?_;first|refine BS rfl rfl ?_|refine BT rfl rfl ?_|refine BU rfl ?_)|(refine BL ?_;first|refine BQ ?_)|(refine BR ?_;try simp only [setS]))|refine AA ?_|refine AC ?_|refine AD ?_|refine AE ?_|refine AF rfl rfl ?_|refine AG rfl rfl ?_|refine AH ?_|refine AI ?_|refine AJ ?_|refine AK ?_|refine AL ?_|refine AM ?_|refine AN ?_|refine AO ?_|refine AP ?_|refine AQ rfl ?_|refine AR ?_|refine AS ?_|refine AT rfl ?_|refine AU rfl ?_
    rw [show ((i : Int) + 1) = ((i + 1 : Nat) : Int) by omega]
    refine round_norm (n - 1) (by omega) ⟨i + 1, r, _, .bot, by omega, by omega, K.and k7, fun k q => ?_, ?_, rfl⟩
    · have := b7 k q; have := K.n; omega
    · rw [hft, show 1 + 3 * (i + 1) = 1 + 3 * i + 3 by omega]
      exact o7
  · have e : i = l.length := by omega
    subst e
    rw [List.take_length] at ob
    have w0 := hm.w0; have wn := hm.wn; have htop := hm.top
    obtain ⟨a, rfl⟩ := Int.eq_ofNat_of_zero_le w0
    obtain ⟨b, rfl⟩ := Int.eq_ofNat_of_zero_le (show 0 ≤ next by omega)
    repeat first|(refine BG ?_;first|(refine BH ?_;first|(refine BI ?_;refine BM ?_)|(refine BJ ?_;first|refine BN ?_|refine BO ?_)|refine BV (hr'.lenv (by rfl)) ?_|refine BV (v_conv_u64 rfl (by omega)) ?_|refine BP ?_)|(refine BK ?_;first|refine BS rfl rfl ?_|refine BT rfl rfl ?_|refine BU rfl ?_)|(refine BL ?_;first|refine BQ ?_)|(refine BR ?_;try simp only [setS]))|refine AA ?_|refine AC ?_|refine AD ?_|refine AE ?_|refine AF rfl rfl ?_|refine AG rfl rfl ?_|refine AH ?_|refine AI ?_|refine AJ ?_|refine AK ?_|refine AL ?_|refine AM ?_|refine AN ?_|refine AO ?_|refine AP ?_|refine AQ rfl ?_|refine AR ?_|refine AS ?_|refine AT rfl ?_|refine AU rfl ?_
    refine wr_call_e rfl ((oput (x := (a : Int)) ob (by omega) rfl).mono fun r h7 ⟨⟨k7, b7⟩, o7⟩ => ?_)
    repeat first|(refine BG ?_;first|(refine BH ?_;first|(refine BI ?_;refine BM ?_)|(refine BJ ?_;first|refine BN ?_|refine BO ?_)|refine BV (v_conv_u64 rfl (by omega)) ?_|refine BP ?_)|(refine BK ?_;first|refine BS rfl rfl ?_|refine BT rfl rfl ?_|refine BU rfl ?_)|(refine BL ?_;first|refine BQ ?_)|(refine BR ?_;try simp only [setS]))|refine AA ?_|refine AC ?_|refine AD ?_|refine AE ?_|refine AF rfl rfl ?_|refine AG rfl rfl ?_|refine AH ?_|refine AI ?_|refine AJ ?_|refine AK ?_|refine AL ?_|refine AM ?_|refine AN ?_|refine AO ?_|refine AP ?_|refine AQ rfl ?_|refine AR ?_|refine AS ?_|refine AT rfl ?_|refine AU rfl ?_
    refine wr_call_e rfl ((oput (x := (b : Int)) o7 (by omega) rfl).mono fun r2 h8 ⟨⟨k8, b8⟩, o8⟩ => ?_)
    repeat first|(refine BG ?_;first|(refine BH ?_;first|(refine BI ?_;refine BM ?_)|(refine BJ ?_;first|refine BN ?_|refine BO ?_)|refine BP ?_)|(refine BK ?_;first|refine BS rfl rfl ?_|refine BT rfl rfl ?_|refine BU rfl ?_)|(refine BL ?_;first|refine BQ ?_)|(refine BR ?_;try simp only [setS]))|refine AA ?_|refine AC ?_|refine AD ?_|refine AE ?_|refine AF rfl rfl ?_|refine AG rfl rfl ?_|refine AH ?_|refine AI ?_|refine AJ ?_|refine AK ?_|refine AL ?_|refine AM ?_|refine AN ?_|refine AO ?_|refine AP ?_|refine AQ rfl ?_|refine AR ?_|refine AS ?_|refine AT rfl ?_|refine AU rfl ?_
    refine ⟨⟨(K.and k7).and k8, fun k q => ?_⟩, ?_⟩
    · have := b8 k q; have := K.n; have := k7.n; omega
    · rw [encM_len]
      have : UInt8.ofNat l.length :: (l ++ [(a : Int), (b : Int)]).flatMap encI = (UInt8.ofNat l.length :: l.flatMap encI) ++ encI a ++ encI b := by simp
      unfold encM
      rw [this, show 1 + 3 * (l.length + 2) = 1 + 3 * l.length + 3 + 3 by omega]
      exact o8
end
end Am
end Go.Proofs.Ythgcdoahoechhaa
