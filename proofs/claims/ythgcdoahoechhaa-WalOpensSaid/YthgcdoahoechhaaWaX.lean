/- Chapter 4's own Entries, walked. -/
import Derived.Test.YthgcdoahoechhaaWaU
set_option linter.unusedVariables false
set_option linter.unusedSimpArgs false
namespace Go.Proofs.Ythgcdoahoechhaa
namespace Am
open Go.RowKit
set_option maxRecDepth 100000
section
variable {X : Type} {e : En} {t : List AV} {h : Hp X}
theorem v_mul256 {q : Eq} {x y : Od} {a : Int} (hx : x.ev e t = .int .i64 a) (hy : y.ev e t = .int .i64 256) (hc : 0 ≤ a ∧ a < 1000000) : (Mv.bin .mul q x y).ev e t h = some (.int .i64 (a * 256)) := by
  have e1 : wr .i64 (a * 256) = a * 256 := wr64 (by omega)
  simp [Mv.ev, hx, hy, Am.bin, AV.onInt, intOp, isShift, e1]
end
section
variable {X : Type} {E : Nat → Option (Ent X)}
def REntPost (h : Hp X) (o : Option (List EM)) (r : AV) (h' : Hp X) : Prop := Keep NoB h h' ∧ match o with
  | some l => ∃ w, r = .tup [w, .bool true] ∧ EntsF h' w l (fun k => h.n ≤ k)
  | none => r = .tup [.snil, .bool false]
theorem OE.keepF {S F : Nat → Prop} {h h' : Hp X} {v : AV} {l : List EM} {lo : Nat} (a : OE h v l lo F) (k : Keep S h h') (hv : ∀ k, lo ≤ k → ¬ S k) (hs : ∀ k, F k → ¬ S k) : OE h' v l lo F := by
  obtain ⟨tri, h1, h2, h3, h4, h5⟩ := a.out
  exact ⟨tri, h1.keep k (fun j hj => hv j (h4 j hj)), h2, fun i q e q1 q2 => (h3 i q e q1 q2).keep k (fun j hj => hs j (h5 q (List.mem_of_getElem? q1) j hj).1), h4, h5⟩
theorem numF_nat (bs : List UInt8) (bad : Bool) : (numF bs bad 1).1 = ((numF bs bad 1).1.toNat : Int) ∧ (numF bs bad 1).1.toNat < 256 := by
  unfold numF
  split
  · have := be_lt (bs.take 1)
    have h2 : 256 ^ (bs.take 1).length ≤ 256 ^ 1 := Nat.pow_le_pow_right (by decide) (List.length_take_le ..)
    refine ⟨by simp, ?_⟩
    simp only [Int.toNat_natCast]
    exact Nat.lt_of_lt_of_le this h2
  · simp
theorem someF_le (bs : List UInt8) (bad : Bool) (n : Nat) : (someF bs bad n).2.1.length ≤ bs.length := by unfold someF; split <;> simp
structure WaQ4 (E : Nat → Option (Ent X)) : Prop where
  r4ents : E 83 = some (.bc b_ref4Entries)
  r4num : E 93 = some (.bc b_ref4Num)
  some_ : E 108 = some (.bc b_ref4Some)
  r2get : E 92 = some (.bc b_ref2Get)
set_option maxHeartbeats 8000000 in
theorem r4entries_ok (hE : ∀ f e, E f = some e → e.plain) (T : WaQ4 E) {h : Hp X} {v : AV} {bs : List UInt8} (hr : RS h 1 v bs.length (bs.map ub)) (hb : bs.length ≤ 1099511627776) :
    WF (lim E) 83 [v] h fun r h' => REntPost h (r4E bs) r h' := by
  refine wf_bc hE T.r4ents rfl ?_
  simp only [b_ref4Entries, List.map, getS]
  have hmx : (maxLen : Nat) = 9223372036854775807 := rfl
  have vone := hr.one
  have kp : Keep NoB h (h.push (.rw [v, .bool false])) := Keep.push _ _ _
  have hlt := hr.lt
  have rd : RdB (h.push (.rw [v, .bool false])) h.n h.n bs false := ⟨Nat.le_refl _, v, bx_push, hr.up kp, hlt⟩
  have hr1 := hr.up kp
  repeat first|(refine BG ?_;first|(refine BH ?_;first|(refine BI ?_;refine BM ?_)|(refine BJ ?_;first|refine BN ?_|refine BO ?_)|refine BV (v_bld2 rfl vone.1) ?_|refine BP ?_)|(refine BK ?_;first|refine BS rfl rfl ?_|refine BT rfl rfl ?_|refine BU rfl ?_)|(refine BL ?_;first|refine BW (ef_box2 rfl vone.2) ?_|refine BQ ?_)|(refine BR ?_;try simp only [setS]))|refine AA ?_|refine AC ?_|refine AD ?_|refine AE ?_|refine AF rfl rfl ?_|refine AG rfl rfl ?_|refine AH ?_|refine AI ?_|refine AJ ?_|refine AK ?_|refine AL ?_|refine AM ?_|refine AN ?_|refine AO ?_|refine AP ?_|refine AQ rfl ?_|refine AR ?_|refine AS ?_|refine AT rfl ?_|refine AU rfl ?_
  have hgn : (h.push (.rw [v, .bool false])).n = h.n + 1 := rfl
  have oneB : ∀ {h0 h' : Hp X}, Keep NoB h h0 → Keep (OneB h.n) h0 h' → Keep NoB h h' := fun a b => a.own b (fun k q => by have q : k = h.n := q; omega)
  by_cases c1 : bs.length < 2
  · have er : r4E bs = none := by unfold r4E; rw [if_pos c1]
    rw [er]
    repeat first|(refine BG ?_;first|(refine BH ?_;first|(refine BI ?_;refine BM ?_)|(refine BJ ?_;first|refine BN ?_|refine BO ?_)|refine BV (hr1.lenv (by rfl)) ?_|refine BP ?_)|(refine BK ?_;first|refine BS rfl rfl ?_|refine BT rfl rfl ?_|refine BU rfl ?_)|(refine BL ?_;first|refine BQ ?_)|(refine BR ?_;try simp only [setS]))|(refine BX ?_;first|refine BY rfl ?_|refine (wd_gf rfl) ?_|(refine BZ ?_;refine CA ?_)|refine CB (hr1.lenv (by rfl)) ?_|refine CC ?_|(refine CD ?_;try simp only [setS]))|refine AA ?_|refine AC ?_|refine AD ?_|refine AE ?_|refine AF rfl rfl ?_|refine AG rfl rfl ?_|refine AH ?_|refine AI ?_|refine AJ ?_|refine AK ?_|refine AL ?_|refine AM ?_|refine AN ?_|refine AO ?_|refine AP ?_|refine AQ rfl ?_|refine AR ?_|refine AS ?_|refine AT rfl ?_|refine AU rfl ?_
    refine wr_heap (h' := h.push (.rw [v, .bool false])) rfl ?_
    refine wr_call_e rfl ((num_ok hE T.r4num T.r2get rd (n := 2) (by omega) hb).mono fun r h2 ⟨e2, r2, k2⟩ => ?_)
    have en : numF bs false 2 = (0, [], true) := by unfold numF; rw [if_neg (by omega)]
    rw [en] at e2 r2
    subst e2
    obtain ⟨bv, x2, _, _⟩ := r2.ok
    have K2 := oneB kp k2
    repeat first|(refine BG ?_;first|(refine BH ?_;first|(refine BI ?_;refine BM ?_)|(refine BJ ?_;first|refine BN ?_|refine BO ?_)|refine BP ?_)|(refine BK ?_;first|refine BS rfl rfl ?_|refine BT rfl rfl ?_|refine BU rfl ?_)|(refine BL ?_;first|refine BQ ?_)|(refine BR ?_;try simp only [setS]))|refine AA ?_|refine AC ?_|refine AD ?_|refine AE ?_|refine AF rfl rfl ?_|refine AG rfl rfl ?_|refine AH ?_|refine AI ?_|refine AJ ?_|refine AK ?_|refine AL ?_|refine AM ?_|refine AN ?_|refine AO ?_|refine AP ?_|refine AQ rfl ?_|refine AR ?_|refine AS ?_|refine AT rfl ?_|refine AU rfl ?_
    refine wb_loop (fun n t hh => hh = h2 ∧ t = [v, .snil, .bool false, .ptr h.n 0, .snil, .int .i64 0, .bot, .bot, .bot, .bool false, .bot, .bot, .bot, .bot, .bot]) ?_ 0 _ _ ⟨rfl, rfl⟩
    rintro n t hh ⟨rfl, rfl⟩
    repeat first|(refine BG ?_;first|(refine BH ?_;first|(refine BI ?_;refine BM ?_)|(refine BJ ?_;first|refine BN ?_|refine BO ?_)|refine BV (v_nilc rfl) ?_|refine BV (v_bx x2 rfl rfl) ?_|refine BP ?_)|(refine BK ?_;first|refine BS rfl rfl ?_|refine BT rfl rfl ?_|refine BU rfl ?_)|(refine BL ?_;first|refine BQ ?_)|(refine BR ?_;try simp only [setS]))|refine AA ?_|refine AC ?_|refine AD ?_|refine AE ?_|refine AF rfl rfl ?_|refine AG rfl rfl ?_|refine AH ?_|refine AI ?_|refine AJ ?_|refine AK ?_|refine AL ?_|refine AM ?_|refine AN ?_|refine AO ?_|refine AP ?_|refine AQ rfl ?_|refine AR ?_|refine AS ?_|refine AT rfl ?_|refine AU rfl ?_
    exact ⟨K2, rfl⟩
  · obtain ⟨g0, o0, p0, l0⟩ := hr1.at2 (i := 0) (by omega)
    obtain ⟨g1, o1, p1, l1⟩ := hr1.at2 (i := 1) (by omega)
    have m0 : ∀ {e : En} {t : List AV} {x : Od}, x.ev e t = .ptr g0 o0 → (Mv.ld1 x).ev e t (h.push (.rw [v, .bool false])) = some (.int .u8 ((bs.getD 0 0).toNat : Int)) := fun {_ _ _} hx => by
      rw [l0 (Keep.refl NoB _) (fun _ _ q => q) hx]
      exact ub_at (i := 0) (by omega) (by omega)
    have m1 : ∀ {e : En} {t : List AV} {x : Od}, x.ev e t = .ptr g1 o1 → (Mv.ld1 x).ev e t (h.push (.rw [v, .bool false])) = some (.int .u8 ((bs.getD 1 0).toNat : Int)) := fun {_ _ _} hx => by
      rw [l1 (Keep.refl NoB _) (fun _ _ q => q) hx]
      exact ub_at (i := 1) (by omega) (by omega)
    have b0 := (bs.getD 0 0).toNat_lt
    have b1 := (bs.getD 1 0).toNat_lt
    have hbe := be_two (bs := bs) (by omega)
    generalize (bs.getD 0 0).toNat = x0 at *
    generalize (bs.getD 1 0).toNat = x1 at *
    by_cases c2 : 8191 < be (bs.take 2)
    · repeat first|(refine BG ?_;first|(refine BH ?_;first|(refine BI ?_;refine BM ?_)|(refine BJ ?_;first|refine BN ?_|refine BO ?_)|refine BV (hr1.lenv (by rfl)) ?_|refine BV (p0 rfl rfl) ?_|refine BV (p1 rfl rfl) ?_|refine BV (m0 rfl) ?_|refine BV (m1 rfl) ?_|refine BV (v_conv_i64 rfl (by omega)) ?_|refine BV (v_mul256 rfl rfl (by omega)) ?_|refine BV (v_add rfl rfl (by omega)) ?_|refine BP ?_)|(refine BK ?_;first|refine BS rfl rfl ?_|refine BT rfl rfl ?_|refine BU rfl ?_)|(refine BL ?_;first|refine BQ ?_)|(refine BR ?_;try simp only [setS]))|(refine BX ?_;first|refine BY rfl ?_|refine (wd_gf rfl) ?_|(refine BZ ?_;refine CA ?_)|refine CB (hr1.lenv (by rfl)) ?_|refine CB (p0 rfl rfl) ?_|refine CB (p1 rfl rfl) ?_|refine CB (m0 rfl) ?_|refine CB (m1 rfl) ?_|refine CB (v_conv_i64 rfl (by omega)) ?_|refine CB (v_mul256 rfl rfl (by omega)) ?_|refine CB (v_add rfl rfl (by omega)) ?_|refine CC ?_|(refine CD ?_;try simp only [setS]))|refine AA ?_|refine AC ?_|refine AD ?_|refine AE ?_|refine AF rfl rfl ?_|refine AG rfl rfl ?_|refine AH ?_|refine AI ?_|refine AJ ?_|refine AK ?_|refine AL ?_|refine AM ?_|refine AN ?_|refine AO ?_|refine AP ?_|refine AQ rfl ?_|refine AR ?_|refine AS ?_|refine AT rfl ?_|refine AU rfl ?_
      have er : r4E bs = none := by unfold r4E; rw [if_neg c1, if_pos c2]
      rw [er]
      exact ⟨kp, rfl⟩
    · repeat first|(refine BG ?_;first|(refine BH ?_;first|(refine BI ?_;refine BM ?_)|(refine BJ ?_;first|refine BN ?_|refine BO ?_)|refine BV (hr1.lenv (by rfl)) ?_|refine BV (p0 rfl rfl) ?_|refine BV (p1 rfl rfl) ?_|refine BV (m0 rfl) ?_|refine BV (m1 rfl) ?_|refine BV (v_conv_i64 rfl (by omega)) ?_|refine BV (v_mul256 rfl rfl (by omega)) ?_|refine BV (v_add rfl rfl (by omega)) ?_|refine BP ?_)|(refine BK ?_;first|refine BS rfl rfl ?_|refine BT rfl rfl ?_|refine BU rfl ?_)|(refine BL ?_;first|refine BQ ?_)|(refine BR ?_;try simp only [setS]))|(refine BX ?_;first|refine BY rfl ?_|refine (wd_gf rfl) ?_|(refine BZ ?_;refine CA ?_)|refine CB (hr1.lenv (by rfl)) ?_|refine CB (p0 rfl rfl) ?_|refine CB (p1 rfl rfl) ?_|refine CB (m0 rfl) ?_|refine CB (m1 rfl) ?_|refine CB (v_conv_i64 rfl (by omega)) ?_|refine CB (v_mul256 rfl rfl (by omega)) ?_|refine CB (v_add rfl rfl (by omega)) ?_|refine CC ?_|(refine CD ?_;try simp only [setS]))|refine AA ?_|refine AC ?_|refine AD ?_|refine AE ?_|refine AF rfl rfl ?_|refine AG rfl rfl ?_|refine AH ?_|refine AI ?_|refine AJ ?_|refine AK ?_|refine AL ?_|refine AM ?_|refine AN ?_|refine AO ?_|refine AP ?_|refine AQ rfl ?_|refine AR ?_|refine AS ?_|refine AT rfl ?_|refine AU rfl ?_
      refine wr_heap (h' := h.push (.rw [v, .bool false])) rfl ?_
      refine wr_call_e rfl ((num_ok hE T.r4num T.r2get rd (n := 2) (by omega) hb).mono fun r h2 ⟨e2, r2, k2⟩ => ?_)
      have en : numF bs false 2 = ((be (bs.take 2) : Int), bs.drop 2, false) := by unfold numF; rw [if_pos (by omega)]
      rw [en] at e2 r2
      subst e2
      have er : r4E bs = r4F [] (r4N (be (bs.take 2)) (bs.drop 2)) := by unfold r4E; rw [if_neg c1, if_neg c2]
      have n2 := k2.n
      rw [hgn] at n2
      repeat first|(refine BG ?_;first|(refine BH ?_;first|(refine BI ?_;refine BM ?_)|(refine BJ ?_;first|refine BN ?_|refine BO ?_)|refine BP ?_)|(refine BK ?_;first|refine BS rfl rfl ?_|refine BT rfl rfl ?_|refine BU rfl ?_)|(refine BL ?_;first|refine BQ ?_)|(refine BR ?_;try simp only [setS]))|refine AA ?_|refine AC ?_|refine AD ?_|refine AE ?_|refine AF rfl rfl ?_|refine AG rfl rfl ?_|refine AH ?_|refine AI ?_|refine AJ ?_|refine AK ?_|refine AL ?_|refine AM ?_|refine AN ?_|refine AO ?_|refine AP ?_|refine AQ rfl ?_|refine AR ?_|refine AS ?_|refine AT rfl ?_|refine AU rfl ?_
      refine wb_loop (fun n t hh => ∃ (rest : List UInt8) (bad : Bool) (done : List EM) (ov s6 s7 s8 s10 s11 s12 s13 s14 : AV), Keep NoB h hh ∧ h.n < hh.n ∧ RdB hh h.n h.n rest bad ∧ rest.length ≤ 1099511627776 ∧ OE hh ov done (h.n + 1) (fun k => h.n < k) ∧ done.length + n ≤ 8191 ∧ (bad = false → r4E bs = r4F done (r4N n rest)) ∧ (bad = true → r4E bs = none) ∧
        t = [v, .snil, .bool false, .ptr h.n 0, ov, .int .i64 n, s6, s7, s8, .bool false, s10, s11, s12, s13, s14]) ?_ (be (bs.take 2)) _ _ ⟨bs.drop 2, false, [], .snil, _, _, _, _, _, _, _, _, oneB kp k2, by omega, r2, by rw [List.length_drop]; omega, OE.nil, by simp; omega, fun _ => er, (fun q => by cases q), rfl⟩
      rintro n t hh ⟨rest, bad, done, ov, s6, s7, s8, s10, s11, s12, s13, s14, K, hgh, rd, hrl, oe, hdn, hbf, hbt, rfl⟩
      obtain ⟨bv, bx, rb, _⟩ := rd.ok
      cases bad with
      | true =>
        rw [hbt rfl]
        by_cases hn : 0 < n
        · repeat first|(refine BG ?_;first|(refine BH ?_;first|(refine BI ?_;refine BM ?_)|(refine BJ ?_;first|refine BN ?_|refine BO ?_)|refine BV (v_nilc rfl) ?_|refine BV (v_bx bx rfl rfl) ?_|refine BP ?_)|(refine BK ?_;first|refine BS rfl rfl ?_|refine BT rfl rfl ?_|refine BU rfl ?_)|(refine BL ?_;first|refine BQ ?_)|(refine BR ?_;try simp only [setS]))|refine AA ?_|refine AC ?_|refine AD ?_|refine AE ?_|refine AF rfl rfl ?_|refine AG rfl rfl ?_|refine AH ?_|refine AI ?_|refine AJ ?_|refine AK ?_|refine AL ?_|refine AM ?_|refine AN ?_|refine AO ?_|refine AP ?_|refine AQ rfl ?_|refine AR ?_|refine AS ?_|refine AT rfl ?_|refine AU rfl ?_
          exact ⟨K, rfl⟩
        · repeat first|(refine BG ?_;first|(refine BH ?_;first|(refine BI ?_;refine BM ?_)|(refine BJ ?_;first|refine BN ?_|refine BO ?_)|refine BV (v_nilc rfl) ?_|refine BV (v_bx bx rfl rfl) ?_|refine BP ?_)|(refine BK ?_;first|refine BS rfl rfl ?_|refine BT rfl rfl ?_|refine BU rfl ?_)|(refine BL ?_;first|refine BQ ?_)|(refine BR ?_;try simp only [setS]))|refine AA ?_|refine AC ?_|refine AD ?_|refine AE ?_|refine AF rfl rfl ?_|refine AG rfl rfl ?_|refine AH ?_|refine AI ?_|refine AJ ?_|refine AK ?_|refine AL ?_|refine AM ?_|refine AN ?_|refine AO ?_|refine AP ?_|refine AQ rfl ?_|refine AR ?_|refine AS ?_|refine AT rfl ?_|refine AU rfl ?_
          exact ⟨K, rfl⟩
      | false =>
        have hbf := hbf rfl
        by_cases hn : 0 < n
        · obtain ⟨k, rfl⟩ : ∃ k, n = k + 1 := ⟨n - 1, by omega⟩
          have hk1 : (((k + 1 : Nat) : Int) - 1) = (k : Int) := by omega
          repeat first|(refine BG ?_;first|(refine BH ?_;first|(refine BI ?_;refine BM ?_)|(refine BJ ?_;first|refine BN ?_|refine BO ?_)|refine BV (v_nilc rfl) ?_|refine BV (v_bx bx rfl rfl) ?_|refine BP ?_)|(refine BK ?_;first|refine BS rfl rfl ?_|refine BT rfl rfl ?_|refine BU rfl ?_)|(refine BL ?_;first|refine BQ ?_)|(refine BR ?_;try simp only [setS]))|refine AA ?_|refine AC ?_|refine AD ?_|refine AE ?_|refine AF rfl rfl ?_|refine AG rfl rfl ?_|refine AH ?_|refine AI ?_|refine AJ ?_|refine AK ?_|refine AL ?_|refine AM ?_|refine AN ?_|refine AO ?_|refine AP ?_|refine AQ rfl ?_|refine AR ?_|refine AS ?_|refine AT rfl ?_|refine AU rfl ?_
          refine wr_call_e rfl ((num_ok hE T.r4num T.r2get rd (n := 1) (by omega) hrl).mono fun r h3 ⟨e3, r3, k3⟩ => ?_)
          subst e3
          have l3 := numF_le rest false 1
          repeat first|(refine BG ?_;first|(refine BH ?_;first|(refine BI ?_;refine BM ?_)|(refine BJ ?_;first|refine BN ?_|refine BO ?_)|refine BP ?_)|(refine BK ?_;first|refine BS rfl rfl ?_|refine BT rfl rfl ?_|refine BU rfl ?_)|(refine BL ?_;first|refine BQ ?_)|(refine BR ?_;try simp only [setS]))|refine AA ?_|refine AC ?_|refine AD ?_|refine AE ?_|refine AF rfl rfl ?_|refine AG rfl rfl ?_|refine AH ?_|refine AI ?_|refine AJ ?_|refine AK ?_|refine AL ?_|refine AM ?_|refine AN ?_|refine AO ?_|refine AP ?_|refine AQ rfl ?_|refine AR ?_|refine AS ?_|refine AT rfl ?_|refine AU rfl ?_
          refine wr_call_e rfl ((num_ok hE T.r4num T.r2get r3 (n := 1) (by omega) (by omega)).mono fun r h4 ⟨e4, r4, k4⟩ => ?_)
          obtain ⟨f1, f2⟩ := numF_nat (numF rest false 1).2.1 (numF rest false 1).2.2
          rw [f1] at e4
          subst e4
          have l4 := numF_le (numF rest false 1).2.1 (numF rest false 1).2.2 1
          repeat first|(refine BG ?_;first|(refine BH ?_;first|(refine BI ?_;refine BM ?_)|(refine BJ ?_;first|refine BN ?_|refine BO ?_)|refine BP ?_)|(refine BK ?_;first|refine BS rfl rfl ?_|refine BT rfl rfl ?_|refine BU rfl ?_)|(refine BL ?_;first|refine BQ ?_)|(refine BR ?_;try simp only [setS]))|refine AA ?_|refine AC ?_|refine AD ?_|refine AE ?_|refine AF rfl rfl ?_|refine AG rfl rfl ?_|refine AH ?_|refine AI ?_|refine AJ ?_|refine AK ?_|refine AL ?_|refine AM ?_|refine AN ?_|refine AO ?_|refine AP ?_|refine AQ rfl ?_|refine AR ?_|refine AS ?_|refine AT rfl ?_|refine AU rfl ?_
          refine wr_call_e rfl ((some_ok hE T.some_ r4 (by omega) (by omega)).mono fun kv h5 ⟨rk, bk, r5, k5⟩ => ?_)
          have l5 := someF_le (numF (numF rest false 1).2.1 (numF rest false 1).2.2 1).2.1 (numF (numF rest false 1).2.1 (numF rest false 1).2.2 1).2.2 (numF (numF rest false 1).2.1 (numF rest false 1).2.2 1).1.toNat
          have hh1 := head_nil (bs := rest)
          have hh2 := head_big (bs := rest)
          have hh3 := head_zero (bs := rest)
          have hh4 := head_one (bs := rest)
          have f0 := (numF_nat rest false).1
          have eH : headF rest = ((numF rest false 1).1, someF (numF (numF rest false 1).2.1 (numF rest false 1).2.2 1).2.1 (numF (numF rest false 1).2.1 (numF rest false 1).2.2 1).2.2 (numF (numF rest false 1).2.1 (numF rest false 1).2.2 1).1.toNat) := rfl
          rw [eH] at hh1 hh2 hh3 hh4
          generalize someF (numF (numF rest false 1).2.1 (numF rest false 1).2.2 1).2.1 (numF (numF rest false 1).2.1 (numF rest false 1).2.2 1).2.2 (numF (numF rest false 1).2.1 (numF rest false 1).2.2 1).1.toNat = S at *
          obtain ⟨key, rs5, bad5⟩ := S
          generalize (numF rest false 1).1 = how at *
          simp only at rk r5 l5 hh1 hh2 hh3 hh4
          have K5 := oneB (oneB (oneB K k3) k4) k5
          have oe5 := ((oe.keepF k3 (fun k q q2 => by have q2 : k = h.n := q2; omega) (fun k q q2 => by have q2 : k = h.n := q2; omega)).keepF k4 (fun k q q2 => by have q2 : k = h.n := q2; omega) (fun k q q2 => by have q2 : k = h.n := q2; omega)).keepF k5 (fun k q q2 => by have q2 : k = h.n := q2; omega) (fun k q q2 => by have q2 : k = h.n := q2; omega)
          have n3 := k3.n
          have n4 := k4.n
          have n5 := k5.n
          have kA : Keep NoB h5 (h5.push (.rw [.snil, .snil, .bool false])) := Keep.push _ _ _
          have bA : Bx (h5.push (.rw [.snil, .snil, .bool false])) h5.n _ := bx_push
          have mk6 : ∀ g : Bool, ∃ h6 : Hp X, h6 = (h5.push (.rw [.snil, .snil, .bool false])).put h5.n (.rw [kv, .snil, .bool g]) ∧ Bx h6 h5.n [kv, .snil, .bool g] ∧ Keep NoB h5 h6 ∧ RS h6 1 kv key.length (key.map ub) ∧ RdB h6 h.n h.n rs5 bad5 ∧ h6.n = h5.n + 1 := fun g => by
            have kB : Keep (OneB h5.n) (h5.push (.rw [.snil, .snil, .bool false])) ((h5.push (.rw [.snil, .snil, .bool false])).put h5.n (.rw [kv, .snil, .bool g])) := Keep.put _ _ _ rfl
            exact ⟨_, rfl, bA.put, kA.own kB (fun k q => by have q : k = h5.n := q; omega), (rk.up kA).keep kB (fun k q1 q2 => by have := rk.lt k q1; have q2 : k = h5.n := q2; omega), (r5.up kA).keep kB (fun k q => by have q : k = h5.n := q; omega), rfl⟩
          have hn1 : k < k + 1 := Nat.lt_succ_self _
          have hno : parseS rest = none → r4E bs = none := fun q => by rw [hbf]; exact r4F_n q
          have rk1 := rk.one
          have hkl : key = [] ↔ key.length = 0 := ⟨fun q => by rw [q]; rfl, List.eq_nil_of_length_eq_zero⟩
          by_cases c0 : how = 0
          · subst c0
            obtain ⟨h6, e6, b6, k6, rk6, r6, n6⟩ := mk6 true
            have hall : allOne [kv, .snil, .bool true] = true := one_all3 rk1.2 rfl rfl
            by_cases cz : key.length = 0
            · have eno := hno (hh1 (hkl.2 cz))
              rw [eno]
              repeat first|(refine BG ?_;first|(refine BH ?_;first|(refine BI ?_;refine BM ?_)|(refine BJ ?_;first|refine BN ?_|refine BO ?_)|refine BV (v_bld02 rfl rfl rk1.1 rfl) ?_|refine BP ?_)|(refine BK ?_;first|refine BS rfl rfl ?_|refine BT rfl rfl ?_|refine BU rfl ?_)|(refine BL ?_;first|refine BW (ef_bxn bA rfl rfl hall rfl (Nat.le_refl _)) ?_|refine BQ ?_)|(refine BR ?_;try simp only [setS]))|refine AA ?_|refine AC ?_|refine AD ?_|refine AE ?_|refine AF rfl rfl ?_|refine AG rfl rfl ?_|refine AH ?_|refine AI ?_|refine AJ ?_|refine AK ?_|refine AL ?_|refine AM ?_|refine AN ?_|refine AO ?_|refine AP ?_|refine AQ rfl ?_|refine AR ?_|refine AS ?_|refine AT rfl ?_|refine AU rfl ?_
              refine wr_heap (h' := h6) (by rw [e6]; rfl) ?_
              repeat first|(refine BG ?_;first|(refine BH ?_;first|(refine BI ?_;refine BM ?_)|(refine BJ ?_;first|refine BN ?_|refine BO ?_)|refine BV (v_bx b6 rfl rfl) ?_|refine BV (rk6.lenv (by rfl)) ?_|refine BP ?_)|(refine BK ?_;first|refine BS rfl rfl ?_|refine BT rfl rfl ?_|refine BU rfl ?_)|(refine BL ?_;first|refine BQ ?_)|(refine BR ?_;try simp only [setS]))|refine AA ?_|refine AC ?_|refine AD ?_|refine AE ?_|refine AF rfl rfl ?_|refine AG rfl rfl ?_|refine AH ?_|refine AI ?_|refine AJ ?_|refine AK ?_|refine AL ?_|refine AM ?_|refine AN ?_|refine AO ?_|refine AP ?_|refine AQ rfl ?_|refine AR ?_|refine AS ?_|refine AT rfl ?_|refine AU rfl ?_
              exact ⟨K5.and k6, rfl⟩
            · obtain ⟨q1, q2⟩ := hh3 (fun q => cz (hkl.1 q)) rfl
              subst q1
              repeat first|(refine BG ?_;first|(refine BH ?_;first|(refine BI ?_;refine BM ?_)|(refine BJ ?_;first|refine BN ?_|refine BO ?_)|refine BV (v_bld02 rfl rfl rk1.1 rfl) ?_|refine BP ?_)|(refine BK ?_;first|refine BS rfl rfl ?_|refine BT rfl rfl ?_|refine BU rfl ?_)|(refine BL ?_;first|refine BW (ef_bxn bA rfl rfl hall rfl (Nat.le_refl _)) ?_|refine BQ ?_)|(refine BR ?_;try simp only [setS]))|refine AA ?_|refine AC ?_|refine AD ?_|refine AE ?_|refine AF rfl rfl ?_|refine AG rfl rfl ?_|refine AH ?_|refine AI ?_|refine AJ ?_|refine AK ?_|refine AL ?_|refine AM ?_|refine AN ?_|refine AO ?_|refine AP ?_|refine AQ rfl ?_|refine AR ?_|refine AS ?_|refine AT rfl ?_|refine AU rfl ?_
              refine wr_heap (h' := h6) (by rw [e6]; rfl) ?_
              obtain ⟨cs, p1, p2, p3⟩ := (oe5.up k6).next (q := (kv, .snil, true)) (e := ⟨key, [], true⟩) ⟨rfl, rk6, ⟨rfl, rfl⟩⟩ (fun j hj => by
                rcases hj with hj | hj
                · have h1 := bk j hj
                  exact ⟨by omega, fun q => by have h2 := oe5.lt j q; have h3 := oe.lt; have h4 := (oe.lt j q); omega⟩
                · exact hj.elim) (by omega)
              repeat first|(refine BG ?_;first|(refine BH ?_;first|(refine BI ?_;refine BM ?_)|(refine BJ ?_;first|refine BN ?_|refine BO ?_)|refine BV (v_bx b6 rfl rfl) ?_|refine BV (rk6.lenv (by rfl)) ?_|refine BV (v_bxn b6 rfl (Nat.le_refl _)) ?_|refine BP ?_)|(refine BK ?_;first|refine BS rfl rfl ?_|refine BT rfl rfl ?_|refine BU rfl ?_)|(refine BL ?_;first|refine BW (ef_bsN rfl rk1.2 rfl) ?_|refine BQ ?_)|(refine BR ?_;try simp only [setS]))|refine AA ?_|refine AC ?_|refine AD ?_|refine AE ?_|refine AF rfl rfl ?_|refine AG rfl rfl ?_|refine AH ?_|refine AI ?_|refine AJ ?_|refine AK ?_|refine AL ?_|refine AM ?_|refine AN ?_|refine AO ?_|refine AP ?_|refine AQ rfl ?_|refine AR ?_|refine AS ?_|refine AT rfl ?_|refine AU rfl ?_
              refine wr_app_e rfl rfl p1 (by decide) p2 (by omega) (by omega) fun v' h' a1 a2 a3 => ?_
              obtain ⟨p4, p5⟩ := p3 v' h' a1 a2 a3
              have olo := oe.lo
              have n7 := p5.n
              repeat first|(refine BG ?_;first|(refine BH ?_;first|(refine BI ?_;refine BM ?_)|(refine BJ ?_;first|refine BN ?_|refine BO ?_)|refine BP ?_)|(refine BK ?_;first|refine BS rfl rfl ?_|refine BT rfl rfl ?_|refine BU rfl ?_)|(refine BL ?_;first|refine BQ ?_)|(refine BR ?_;try simp only [setS]))|refine AA ?_|refine AC ?_|refine AD ?_|refine AE ?_|refine AF rfl rfl ?_|refine AG rfl rfl ?_|refine AH ?_|refine AI ?_|refine AJ ?_|refine AK ?_|refine AL ?_|refine AM ?_|refine AN ?_|refine AO ?_|refine AP ?_|refine AQ rfl ?_|refine AR ?_|refine AS ?_|refine AT rfl ?_|refine AU rfl ?_
              rw [hk1]
              exact round_norm k hn1 ⟨rs5, false, done ++ [⟨key, [], true⟩], v', _, _, _, _, _, _, _, _, (K5.and k6).own p5 (fun j q => by have := olo j q; omega), by omega, r6.keep p5 (fun j q => by have := olo j q; omega), by omega, p4, by rw [List.length_append, List.length_singleton]; omega, (fun _ => by rw [hbf, r4F_s q2]), (fun q => by cases q), rfl⟩
          · by_cases c1 : how = 1
            · subst c1
              obtain ⟨h6, e6, b6, k6, rk6, r6, n6⟩ := mk6 false
              have hall : allOne [kv, .snil, .bool false] = true := one_all3 rk1.2 rfl rfl
              by_cases cz : key.length = 0
              · have eno := hno (hh1 (hkl.2 cz))
                rw [eno]
                repeat first|(refine BG ?_;first|(refine BH ?_;first|(refine BI ?_;refine BM ?_)|(refine BJ ?_;first|refine BN ?_|refine BO ?_)|refine BV (v_bld02 rfl rfl rk1.1 rfl) ?_|refine BP ?_)|(refine BK ?_;first|refine BS rfl rfl ?_|refine BT rfl rfl ?_|refine BU rfl ?_)|(refine BL ?_;first|refine BW (ef_bxn bA rfl rfl hall rfl (Nat.le_refl _)) ?_|refine BQ ?_)|(refine BR ?_;try simp only [setS]))|refine AA ?_|refine AC ?_|refine AD ?_|refine AE ?_|refine AF rfl rfl ?_|refine AG rfl rfl ?_|refine AH ?_|refine AI ?_|refine AJ ?_|refine AK ?_|refine AL ?_|refine AM ?_|refine AN ?_|refine AO ?_|refine AP ?_|refine AQ rfl ?_|refine AR ?_|refine AS ?_|refine AT rfl ?_|refine AU rfl ?_
                refine wr_heap (h' := h6) (by rw [e6]; rfl) ?_
                repeat first|(refine BG ?_;first|(refine BH ?_;first|(refine BI ?_;refine BM ?_)|(refine BJ ?_;first|refine BN ?_|refine BO ?_)|refine BV (v_bx b6 rfl rfl) ?_|refine BV (rk6.lenv (by rfl)) ?_|refine BP ?_)|(refine BK ?_;first|refine BS rfl rfl ?_|refine BT rfl rfl ?_|refine BU rfl ?_)|(refine BL ?_;first|refine BQ ?_)|(refine BR ?_;try simp only [setS]))|refine AA ?_|refine AC ?_|refine AD ?_|refine AE ?_|refine AF rfl rfl ?_|refine AG rfl rfl ?_|refine AH ?_|refine AI ?_|refine AJ ?_|refine AK ?_|refine AL ?_|refine AM ?_|refine AN ?_|refine AO ?_|refine AP ?_|refine AQ rfl ?_|refine AR ?_|refine AS ?_|refine AT rfl ?_|refine AU rfl ?_
                exact ⟨K5.and k6, rfl⟩
              · obtain ⟨q1, q2, q3, q4, q5⟩ := hh4 (fun q => cz (hkl.1 q)) rfl
                subst q1
                repeat first|(refine BG ?_;first|(refine BH ?_;first|(refine BI ?_;refine BM ?_)|(refine BJ ?_;first|refine BN ?_|refine BO ?_)|refine BV (v_bld02 rfl rfl rk1.1 rfl) ?_|refine BP ?_)|(refine BK ?_;first|refine BS rfl rfl ?_|refine BT rfl rfl ?_|refine BU rfl ?_)|(refine BL ?_;first|refine BW (ef_bxn bA rfl rfl hall rfl (Nat.le_refl _)) ?_|refine BQ ?_)|(refine BR ?_;try simp only [setS]))|refine AA ?_|refine AC ?_|refine AD ?_|refine AE ?_|refine AF rfl rfl ?_|refine AG rfl rfl ?_|refine AH ?_|refine AI ?_|refine AJ ?_|refine AK ?_|refine AL ?_|refine AM ?_|refine AN ?_|refine AO ?_|refine AP ?_|refine AQ rfl ?_|refine AR ?_|refine AS ?_|refine AT rfl ?_|refine AU rfl ?_
                refine wr_heap (h' := h6) (by rw [e6]; rfl) ?_
                repeat first|(refine BG ?_;first|(refine BH ?_;first|(refine BI ?_;refine BM ?_)|(refine BJ ?_;first|refine BN ?_|refine BO ?_)|refine BV (v_bx b6 rfl rfl) ?_|refine BV (rk6.lenv (by rfl)) ?_|refine BP ?_)|(refine BK ?_;first|refine BS rfl rfl ?_|refine BT rfl rfl ?_|refine BU rfl ?_)|(refine BL ?_;first|refine BQ ?_)|(refine BR ?_;try simp only [setS]))|refine AA ?_|refine AC ?_|refine AD ?_|refine AE ?_|refine AF rfl rfl ?_|refine AG rfl rfl ?_|refine AH ?_|refine AI ?_|refine AJ ?_|refine AK ?_|refine AL ?_|refine AM ?_|refine AN ?_|refine AO ?_|refine AP ?_|refine AQ rfl ?_|refine AR ?_|refine AS ?_|refine AT rfl ?_|refine AU rfl ?_
                refine wr_call_e rfl ((num_ok hE T.r4num T.r2get r6 (n := 2) (by omega) (by omega)).mono fun r h7 ⟨e7, r7, k7⟩ => ?_)
                subst e7
                obtain ⟨vn, g1, g2, g3, g4, g5⟩ : ∃ vn : Nat, (numF rs5 false 2).1 = (vn : Int) ∧ vn < 65536 ∧ (4095 < vn → parseS rest = none) ∧ ((someF (numF rs5 false 2).2.1 (numF rs5 false 2).2.2 vn).2.2 = true → parseS rest = none) ∧
                    ((someF (numF rs5 false 2).2.1 (numF rs5 false 2).2.2 vn).2.2 = false → vn ≤ 4095 → parseS rest = some (⟨key, (someF (numF rs5 false 2).2.1 (numF rs5 false 2).2.2 vn).1, false⟩, (someF (numF rs5 false 2).2.1 (numF rs5 false 2).2.2 vn).2.1)) := by
                  by_cases d1 : rs5.length < 2
                  · have en : numF rs5 false 2 = (0, [], true) := by unfold numF; rw [if_neg (by omega)]
                    rw [en]
                    refine ⟨0, rfl, by omega, fun q => by omega, fun _ => q2 d1, fun q => ?_⟩
                    unfold someF at q
                    rw [if_pos (.inl rfl)] at q
                    cases q
                  · have en : numF rs5 false 2 = ((be (rs5.take 2) : Int), rs5.drop 2, false) := by unfold numF; rw [if_pos (by omega)]
                    rw [en]
                    have hb2 := be2_lt rs5
                    refine ⟨be (rs5.take 2), rfl, by omega, fun q => q3 (by omega) q, fun q => ?_, fun q qq => ?_⟩
                    · by_cases d2 : (rs5.drop 2).length < be (rs5.take 2)
                      · exact q4 (by omega) d2
                      · unfold someF at q
                        rw [if_neg (by rintro (x | x); cases x; exact d2 x)] at q
                        cases q
                    · by_cases d2 : (rs5.drop 2).length < be (rs5.take 2)
                      · unfold someF at q
                        rw [if_pos (.inr d2)] at q
                        cases q
                      · have es : someF (rs5.drop 2) false (be (rs5.take 2)) = ((rs5.drop 2).take (be (rs5.take 2)), (rs5.drop 2).drop (be (rs5.take 2)), false) := by unfold someF; rw [if_neg (by rintro (x | x); cases x; exact d2 x)]
                        rw [es]
                        exact q5 (by omega) qq (by omega)
                rw [g1]
                have l7 := numF_le rs5 false 2
                generalize (numF rs5 false 2).2.1 = rs7 at *
                generalize (numF rs5 false 2).2.2 = bad7 at *
                have b7 := b6.keep k7 (fun q => by have q : h5.n = h.n := q; omega)
                have rk7 := rk6.keep k7 (fun j q1 q2 => by have := bk j q1; have q2 : j = h.n := q2; omega)
                have oe7 := (oe5.up k6).keepF k7 (fun j q q2 => by have q2 : j = h.n := q2; omega) (fun j q q2 => by have q2 : j = h.n := q2; omega)
                have K7 := oneB (K5.and k6) k7
                have n7 := k7.n
                by_cases d3 : 4095 < vn
                · rw [hno (g3 d3)]
                  repeat first|(refine BG ?_;first|(refine BH ?_;first|(refine BI ?_;refine BM ?_)|(refine BJ ?_;first|refine BN ?_|refine BO ?_)|refine BP ?_)|(refine BK ?_;first|refine BS rfl rfl ?_|refine BT rfl rfl ?_|refine BU rfl ?_)|(refine BL ?_;first|refine BQ ?_)|(refine BR ?_;try simp only [setS]))|refine AA ?_|refine AC ?_|refine AD ?_|refine AE ?_|refine AF rfl rfl ?_|refine AG rfl rfl ?_|refine AH ?_|refine AI ?_|refine AJ ?_|refine AK ?_|refine AL ?_|refine AM ?_|refine AN ?_|refine AO ?_|refine AP ?_|refine AQ rfl ?_|refine AR ?_|refine AS ?_|refine AT rfl ?_|refine AU rfl ?_
                  exact ⟨K7, rfl⟩
                · repeat first|(refine BG ?_;first|(refine BH ?_;first|(refine BI ?_;refine BM ?_)|(refine BJ ?_;first|refine BN ?_|refine BO ?_)|refine BP ?_)|(refine BK ?_;first|refine BS rfl rfl ?_|refine BT rfl rfl ?_|refine BU rfl ?_)|(refine BL ?_;first|refine BQ ?_)|(refine BR ?_;try simp only [setS]))|refine AA ?_|refine AC ?_|refine AD ?_|refine AE ?_|refine AF rfl rfl ?_|refine AG rfl rfl ?_|refine AH ?_|refine AI ?_|refine AJ ?_|refine AK ?_|refine AL ?_|refine AM ?_|refine AN ?_|refine AO ?_|refine AP ?_|refine AQ rfl ?_|refine AR ?_|refine AS ?_|refine AT rfl ?_|refine AU rfl ?_
                  refine wr_call_e rfl ((some_ok hE T.some_ r7 (by omega) (by omega)).mono fun vv h8 ⟨rv, bv8, r8, k8⟩ => ?_)
                  have l8 := someF_le rs7 bad7 vn
                  generalize someF rs7 bad7 vn = S at *
                  obtain ⟨val, rs8, bad8⟩ := S
                  simp only at rv r8 l8 g4 g5
                  have b8 := b7.keep k8 (fun q => by have q : h5.n = h.n := q; omega)
                  have rk8 := rk7.keep k8 (fun j q1 q2 => by have := bk j q1; have q2 : j = h.n := q2; omega)
                  have oe8 := oe7.keepF k8 (fun j q q2 => by have q2 : j = h.n := q2; omega) (fun j q q2 => by have q2 : j = h.n := q2; omega)
                  have K8 := oneB K7 k8
                  have n8 := k8.n
                  have kZ : Keep (OneB h5.n) h8 (h8.put h5.n (.rw [kv, vv, .bool false])) := Keep.put _ _ _ rfl
                  have b9 : Bx (h8.put h5.n (.rw [kv, vv, .bool false])) h5.n [kv, vv, .bool false] := b8.put
                  have hkl5 := rk.lt
                  have hol := oe.lt
                  have rk9 := rk8.keep kZ (fun j q1 q2 => by have := hkl5 j q1; have q2 : j = h5.n := q2; omega)
                  have rv9 := rv.keep kZ (fun j q1 q2 => by have := bv8 j q1; have q2 : j = h5.n := q2; omega)
                  have KK : Keep (OneB h.n) hh (h8.put h5.n (.rw [kv, vv, .bool false])) := (((((k3.trans k4 (fun _ _ q => q)).trans k5 (fun _ _ q => q)).and k6).trans k7 (fun _ _ q => q)).trans k8 (fun _ _ q => q)).on kZ (fun j q => by have q : j = h5.n := q; omega)
                  have oe9 := oe.keepF KK (fun j q q2 => by have q2 : j = h.n := q2; omega) (fun j q q2 => by have q2 : j = h.n := q2; omega)
                  have r9 := r8.keep kZ (fun j q => by have q : j = h5.n := q; omega)
                  have K9 := oneB K KK
                  repeat first|(refine BG ?_;first|(refine BH ?_;first|(refine BI ?_;refine BM ?_)|(refine BJ ?_;first|refine BN ?_|refine BO ?_)|refine BP ?_)|(refine BK ?_;first|refine BS rfl rfl ?_|refine BT rfl rfl ?_|refine BU rfl ?_)|(refine BL ?_;first|refine BW (ef_bx b8 rfl rfl rv.one (Nat.succ_lt_succ (Nat.zero_lt_succ _))) ?_|refine BQ ?_)|(refine BR ?_;try simp only [setS]))|refine AA ?_|refine AC ?_|refine AD ?_|refine AE ?_|refine AF rfl rfl ?_|refine AG rfl rfl ?_|refine AH ?_|refine AI ?_|refine AJ ?_|refine AK ?_|refine AL ?_|refine AM ?_|refine AN ?_|refine AO ?_|refine AP ?_|refine AQ rfl ?_|refine AR ?_|refine AS ?_|refine AT rfl ?_|refine AU rfl ?_
                  obtain ⟨h9, hh9⟩ : ∃ h9 : Hp X, h9 = h8.put h5.n (.rw [kv, vv, .bool false]) := ⟨_, rfl⟩
                  refine wr_heap (h' := h9) (by rw [hh9]; rfl) ?_
                  rw [← hh9] at b9 rk9 rv9 KK oe9 r9 K9
                  have n9 : h9.n = h8.n := by rw [hh9]; rfl
                  clear hh9 kZ
                  obtain ⟨cs, p1, p2, p3⟩ := oe9.next (q := (kv, vv, false)) (e := ⟨key, val, false⟩) ⟨rfl, rk9, rv9⟩ (fun j hj => by
                    rcases hj with hj | hj
                    · have h1 := bk j hj
                      exact ⟨by omega, fun q => by have := hol j q; omega⟩
                    · have h1 := bv8 j hj
                      exact ⟨by omega, fun q => by have := hol j q; omega⟩) (by omega)
                  repeat first|(refine BG ?_;first|(refine BH ?_;first|(refine BI ?_;refine BM ?_)|(refine BJ ?_;first|refine BN ?_|refine BO ?_)|refine BV (v_bxn b9 rfl (Nat.le_refl _)) ?_|refine BP ?_)|(refine BK ?_;first|refine BS rfl rfl ?_|refine BT rfl rfl ?_|refine BU rfl ?_)|(refine BL ?_;first|refine BW (ef_bsN rfl rk1.2 rv9.one.2) ?_|refine BQ ?_)|(refine BR ?_;try simp only [setS]))|refine AA ?_|refine AC ?_|refine AD ?_|refine AE ?_|refine AF rfl rfl ?_|refine AG rfl rfl ?_|refine AH ?_|refine AI ?_|refine AJ ?_|refine AK ?_|refine AL ?_|refine AM ?_|refine AN ?_|refine AO ?_|refine AP ?_|refine AQ rfl ?_|refine AR ?_|refine AS ?_|refine AT rfl ?_|refine AU rfl ?_
                  refine wr_app_e rfl rfl p1 (by decide) p2 (by omega) (by omega) fun v' h' a1 a2 a3 => ?_
                  obtain ⟨p4, p5⟩ := p3 v' h' a1 a2 a3
                  have olo := oe.lo
                  have n10 := p5.n
                  repeat first|(refine BG ?_;first|(refine BH ?_;first|(refine BI ?_;refine BM ?_)|(refine BJ ?_;first|refine BN ?_|refine BO ?_)|refine BP ?_)|(refine BK ?_;first|refine BS rfl rfl ?_|refine BT rfl rfl ?_|refine BU rfl ?_)|(refine BL ?_;first|refine BQ ?_)|(refine BR ?_;try simp only [setS]))|refine AA ?_|refine AC ?_|refine AD ?_|refine AE ?_|refine AF rfl rfl ?_|refine AG rfl rfl ?_|refine AH ?_|refine AI ?_|refine AJ ?_|refine AK ?_|refine AL ?_|refine AM ?_|refine AN ?_|refine AO ?_|refine AP ?_|refine AQ rfl ?_|refine AR ?_|refine AS ?_|refine AT rfl ?_|refine AU rfl ?_
                  rw [hk1]
                  refine round_norm k hn1 ⟨rs8, bad8, done ++ [⟨key, val, false⟩], v', _, _, _, _, _, _, _, _, K9.own p5 (fun j q => by have := olo j q; omega), by omega, r9.keep p5 (fun j q => by have := olo j q; omega), by omega, p4, by rw [List.length_append, List.length_singleton]; omega, (fun q => ?_), (fun q => hno (g4 q)), rfl⟩
                  rw [hbf, r4F_s (g5 q (by omega))]
            · have eno := hno (hh2 (by omega))
              rw [eno]
              obtain ⟨h6, e6, b6, k6, rk6, r6, n6⟩ := mk6 false
              have hall : allOne [kv, .snil, .bool false] = true := one_all3 rk1.2 rfl rfl
              repeat first|(refine BG ?_;first|(refine BH ?_;first|(refine BI ?_;refine BM ?_)|(refine BJ ?_;first|refine BN ?_|refine BO ?_)|refine BV (v_bld02 rfl rfl rk1.1 rfl) ?_|refine BP ?_)|(refine BK ?_;first|refine BS rfl rfl ?_|refine BT rfl rfl ?_|refine BU rfl ?_)|(refine BL ?_;first|refine BW (ef_bxn bA rfl rfl hall rfl (Nat.le_refl _)) ?_|refine BQ ?_)|(refine BR ?_;try simp only [setS]))|refine AA ?_|refine AC ?_|refine AD ?_|refine AE ?_|refine AF rfl rfl ?_|refine AG rfl rfl ?_|refine AH ?_|refine AI ?_|refine AJ ?_|refine AK ?_|refine AL ?_|refine AM ?_|refine AN ?_|refine AO ?_|refine AP ?_|refine AQ rfl ?_|refine AR ?_|refine AS ?_|refine AT rfl ?_|refine AU rfl ?_
              subst e6
              exact ⟨K5.and k6, rfl⟩
        · have hn0 : n = 0 := by omega
          subst hn0
          have e0 : r4F done (r4N 0 rest) = if rest.length = 0 then some done else none := by simp [r4F, r4N]
          rw [hbf, e0]
          by_cases hz : rest.length = 0
          · rw [if_pos hz]
            repeat first|(refine BG ?_;first|(refine BH ?_;first|(refine BI ?_;refine BM ?_)|(refine BJ ?_;first|refine BN ?_|refine BO ?_)|refine BV (v_nilc rfl) ?_|refine BV (v_bx bx rfl rfl) ?_|refine BV (rb.lenv (by rfl)) ?_|refine BP ?_)|(refine BK ?_;first|refine BS rfl rfl ?_|refine BT rfl rfl ?_|refine BU rfl ?_)|(refine BL ?_;first|refine BQ ?_)|(refine BR ?_;try simp only [setS]))|refine AA ?_|refine AC ?_|refine AD ?_|refine AE ?_|refine AF rfl rfl ?_|refine AG rfl rfl ?_|refine AH ?_|refine AI ?_|refine AJ ?_|refine AK ?_|refine AL ?_|refine AM ?_|refine AN ?_|refine AO ?_|refine AP ?_|refine AQ rfl ?_|refine AR ?_|refine AS ?_|refine AT rfl ?_|refine AU rfl ?_
            exact ⟨K, ov, rfl, oe.entsF.on (fun k q => by rcases q with q | q <;> omega)⟩
          · rw [if_neg hz]
            repeat first|(refine BG ?_;first|(refine BH ?_;first|(refine BI ?_;refine BM ?_)|(refine BJ ?_;first|refine BN ?_|refine BO ?_)|refine BV (v_nilc rfl) ?_|refine BV (v_bx bx rfl rfl) ?_|refine BV (rb.lenv (by rfl)) ?_|refine BP ?_)|(refine BK ?_;first|refine BS rfl rfl ?_|refine BT rfl rfl ?_|refine BU rfl ?_)|(refine BL ?_;first|refine BQ ?_)|(refine BR ?_;try simp only [setS]))|refine AA ?_|refine AC ?_|refine AD ?_|refine AE ?_|refine AF rfl rfl ?_|refine AG rfl rfl ?_|refine AH ?_|refine AI ?_|refine AJ ?_|refine AK ?_|refine AL ?_|refine AM ?_|refine AN ?_|refine AO ?_|refine AP ?_|refine AQ rfl ?_|refine AR ?_|refine AS ?_|refine AT rfl ?_|refine AU rfl ?_
            exact ⟨K, rfl⟩
end
end Am
end Go.Proofs.Ythgcdoahoechhaa
