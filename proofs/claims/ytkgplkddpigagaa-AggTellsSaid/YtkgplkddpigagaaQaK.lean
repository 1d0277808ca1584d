/- Package agg: Do. -/
import Derived.Test.YtkgplkddpigagaaQaJ
set_option linter.unusedVariables false
set_option linter.unusedSimpArgs false
namespace Go.Proofs.Ytkgplkddpigagaa
namespace Am
open Go.RowKit
set_option maxRecDepth 100000
theorem goF_i64 {how : Int} : ∀ {l : List QQ} {a : QQ}, I64Q a → (∀ q ∈ l, I64Q q) → I64Q (goF how a l).1
  | [], a, ha, _ => ha
  | b :: l, a, ha, hl => by
    unfold goF
    split
    · exact zero_i64
    · exact goF_i64 (stepF_i64 ha (hl b (List.mem_cons_self ..))) (fun q hq => hl q (List.mem_cons_of_mem _ hq))
theorem foldF_i64 {how : Int} {l : List QQ} (h : ∀ q ∈ l, I64Q q) : I64Q (foldF how l).1 := by
  cases l with
  | nil => exact zero_i64
  | cons a l =>
    show I64Q (foldF1 how a l).1
    unfold foldF1
    have hg := goF_i64 (how := how) (h a (List.mem_cons_self ..)) (fun q hq => h q (List.mem_cons_of_mem _ hq))
    repeat' split
    all_goals first | exact zero_i64 | exact newF_i64 _ _ | exact divF_i64 _ _ | exact hg
noncomputable def aggG (how : Int) (ls : List (List SM)) : List SM → List Int → List SM × Int
  | out, [] => (out, 0)
  | out, t :: r => if (atsG t [] ls).2 ≠ 0 then ([], (atsG t [] ls).2) else if (foldF how (atsG t [] ls).1).2 ≠ 0 then ([], (foldF how (atsG t [] ls).1).2) else aggG how ls (out ++ [⟨t, (foldF how (atsG t [] ls).1).1⟩]) r
open Classical in
noncomputable def aggF (how : Int) (ls : List (List SM)) : List SM × Int := if (decide (1 ≤ how) && decide (how ≤ 7)) = false ∨ ∃ l ∈ ls, ¬ RightS l then ([], 1) else aggG how ls [] (timesF ls)
theorem dd_mem : ∀ {l : List Int} {x : Int}, x ∈ dd l ↔ x ∈ l
  | [], x => Iff.rfl
  | [a], x => Iff.rfl
  | a :: b :: l, x => by
    have ih := @dd_mem (b :: l) x
    show x ∈ (if a = b then dd (b :: l) else a :: dd (b :: l)) ↔ _
    split
    · rename_i h
      rw [ih, h]
      simp
    · rw [List.mem_cons, ih, List.mem_cons (a := x) (b := a)]
theorem timesF_mem {ls : List (List SM)} {x : Int} : x ∈ timesF ls ↔ ∃ l ∈ ls, ∃ s ∈ l, s.t = x := by
  unfold timesF
  rw [dd_mem]
  unfold sortI timesL
  rw [List.mem_mergeSort]
  simp [List.mem_flatMap]
theorem timesF_len {ls : List (List SM)} (hl : ls.length ≤ 1000) (hl2 : ∀ l ∈ ls, l.length ≤ 1000) : (timesF ls).length ≤ 1000000 := by
  have h1 := dd_len (sortI (timesL ls))
  rw [sortI_len] at h1
  have h2 := timesL_len hl2
  unfold timesF
  omega
theorem ef_bss {X : Type} {e : En} {t : List AV} {h : Hp X} {x : Od} {s : SM} (hx : x.ev e t = .agg (sc s)) : (Ef.bslice 3 1 [.int .i64 0, .int .i64 0, .int .i64 0] [(0, 3, x)]).ev e t h = some (.slice 3 h.n 0 1 (some 1), h.push (.rw (sc s))) := by
  simp only [Ef.ev, List.map, hx]
  rfl
section
variable {X : Type} {E : Nat → Option (Ent X)}
structure QaN (E : Nat → Option (Ent X)) : Prop extends QaM E where
  ado : E 12 = some (.bc b_aggDo)
set_option maxHeartbeats 2000000 in
theorem ado_ok (hE : ∀ f e, E f = some e → e.plain) (T : QaN E) {h : Hp X} {v : AV} {ls : List (List SM)} (a : Sers h v ls) (hl2 : ∀ l ∈ ls, l.length ≤ 1000) (how : Int) :
    WF (lim E) 12 [.int .i64 how, v] h fun x h' => Keep NoB h h' ∧ ∃ w, x = .tup [w, .int .i64 (aggF how ls).2] ∧ Ser h' w (aggF how ls).1 ∧ ∀ k, blk w k → h.n ≤ k := by
  have hmx : (maxLen : Nat) = 9223372036854775807 := rfl
  refine wf_bc hE T.ado rfl ?_
  simp only [b_aggDo, List.map, getS]
  have nilS : ∀ {hh : Hp X}, Ser hh .snil [] := fun {hh} => ⟨⟨rfl, rfl⟩, by simp, fun s hs => by cases hs⟩
  repeat first|(refine BG ?_;first|(refine BH ?_;first|(refine BI ?_;refine BM ?_)|(refine BJ ?_;first|refine BN ?_|refine BO ?_)|refine BP ?_)|(refine BK ?_;first|refine BS rfl rfl ?_|refine BT rfl rfl ?_|refine BU rfl ?_)|(refine BL ?_;first|refine BQ ?_)|(refine BR ?_;try simp only [setS]))|refine AA ?_|refine AC ?_|refine AD ?_|refine AE ?_|refine AF rfl rfl ?_|refine AG rfl rfl ?_|refine AH ?_|refine AI ?_|refine AJ ?_|refine AK ?_|refine AL ?_|refine AM ?_|refine AN ?_|refine AO ?_|refine AP ?_|refine AQ rfl ?_|refine AR ?_|refine AS ?_|refine AT rfl ?_|refine AU rfl ?_
  refine wr_call_e rfl ((fright_ok hE T.toQaF how).mono fun x h1 ⟨e1, e2⟩ => ?_)
  subst e2
  have e1 := e1.symm
  subst e1
  rcases Bool.eq_false_or_eq_true (decide (1 ≤ how) && decide (how ≤ 7)) with hh | hh
  case' inr =>
    have e : aggF how ls = ([], 1) := by unfold aggF; rw [if_pos (.inl hh)]
    rw [e, hh]
    repeat first|(refine BG ?_;first|(refine BH ?_;first|(refine BI ?_;refine BM ?_)|(refine BJ ?_;first|refine BN ?_|refine BO ?_)|refine BV (v_notb rfl) ?_|refine BP ?_)|(refine BK ?_;first|refine BS rfl rfl ?_|refine BT rfl rfl ?_|refine BU rfl ?_)|(refine BL ?_;first|refine BQ ?_)|(refine BR ?_;try simp only [setS]))|refine AA ?_|refine AC ?_|refine AD ?_|refine AE ?_|refine AF rfl rfl ?_|refine AG rfl rfl ?_|refine AH ?_|refine AI ?_|refine AJ ?_|refine AK ?_|refine AL ?_|refine AM ?_|refine AN ?_|refine AO ?_|refine AP ?_|refine AQ rfl ?_|refine AR ?_|refine AS ?_|refine AT rfl ?_|refine AU rfl ?_
    exact ⟨Keep.refl _ _, .snil, rfl, nilS, fun k q => q.elim⟩
  rw [hh]
  repeat first|(refine BG ?_;first|(refine BH ?_;first|(refine BI ?_;refine BM ?_)|(refine BJ ?_;first|refine BN ?_|refine BO ?_)|refine BV (v_notb rfl) ?_|refine BP ?_)|(refine BK ?_;first|refine BS rfl rfl ?_|refine BT rfl rfl ?_|refine BU rfl ?_)|(refine BL ?_;first|refine BQ ?_)|(refine BR ?_;try simp only [setS]))|refine AA ?_|refine AC ?_|refine AD ?_|refine AE ?_|refine AF rfl rfl ?_|refine AG rfl rfl ?_|refine AH ?_|refine AI ?_|refine AJ ?_|refine AK ?_|refine AL ?_|refine AM ?_|refine AN ?_|refine AO ?_|refine AP ?_|refine AQ rfl ?_|refine AR ?_|refine AS ?_|refine AT rfl ?_|refine AU rfl ?_
  refine wr_call_e rfl ((hasS_ok hE T.toQaL a).mono fun x h2 ⟨k2, b, e2, hb⟩ => ?_)
  subst e2
  cases b with
  | true =>
    have e : aggF how ls = ([], 1) := by unfold aggF; rw [if_pos (.inr (hb.1 rfl))]
    rw [e]
    repeat first|(refine BG ?_;first|(refine BH ?_;first|(refine BI ?_;refine BM ?_)|(refine BJ ?_;first|refine BN ?_|refine BO ?_)|refine BP ?_)|(refine BK ?_;first|refine BS rfl rfl ?_|refine BT rfl rfl ?_|refine BU rfl ?_)|(refine BL ?_;first|refine BQ ?_)|(refine BR ?_;try simp only [setS]))|refine AA ?_|refine AC ?_|refine AD ?_|refine AE ?_|refine AF rfl rfl ?_|refine AG rfl rfl ?_|refine AH ?_|refine AI ?_|refine AJ ?_|refine AK ?_|refine AL ?_|refine AM ?_|refine AN ?_|refine AO ?_|refine AP ?_|refine AQ rfl ?_|refine AR ?_|refine AS ?_|refine AT rfl ?_|refine AU rfl ?_
    exact ⟨k2, .snil, rfl, nilS, fun k q => q.elim⟩
  | false =>
    have hns : ¬ ∃ l ∈ ls, ¬ RightS l := fun q => by have := hb.2 q; cases this
    have e : aggF how ls = aggG how ls [] (timesF ls) := by unfold aggF; rw [if_neg (by rintro (q | q); rw [hh] at q; cases q; exact hns q)]
    rw [e]
    repeat first|(refine BG ?_;first|(refine BH ?_;first|(refine BI ?_;refine BM ?_)|(refine BJ ?_;first|refine BN ?_|refine BO ?_)|refine BP ?_)|(refine BK ?_;first|refine BS rfl rfl ?_|refine BT rfl rfl ?_|refine BU rfl ?_)|(refine BL ?_;first|refine BQ ?_)|(refine BR ?_;try simp only [setS]))|refine AA ?_|refine AC ?_|refine AD ?_|refine AE ?_|refine AF rfl rfl ?_|refine AG rfl rfl ?_|refine AH ?_|refine AI ?_|refine AJ ?_|refine AK ?_|refine AL ?_|refine AM ?_|refine AN ?_|refine AO ?_|refine AP ?_|refine AQ rfl ?_|refine AR ?_|refine AS ?_|refine AT rfl ?_|refine AU rfl ?_
    refine wr_call_s rfl ((times_ok hE T.toQaM (a.up k2) hl2).mono fun tv h3 ⟨k3, rT⟩ => ?_)
    have htl := timesF_len a.len hl2
    have ht64 : ∀ x ∈ timesF ls, I64 x := fun x hx => by
      obtain ⟨l, hl, s, hs, rfl⟩ := timesF_mem.1 hx
      obtain ⟨cells, _, hat⟩ := a.out
      obtain ⟨i, hi⟩ := List.mem_iff_getElem?.1 hl
      obtain ⟨c, _, hser⟩ := hat i l hi
      exact (hser.row s hs).1
    have K3 := k2.and k3
    generalize timesF ls = T0 at *
    repeat first|(refine BG ?_;first|(refine BH ?_;first|(refine BI ?_;refine BM ?_)|(refine BJ ?_;first|refine BN ?_|refine BO ?_)|refine BV (rT.lenv (by rfl)) ?_|refine BP ?_)|(refine BK ?_;first|refine BS rfl rfl ?_|refine BT rfl rfl ?_|refine BU rfl ?_)|(refine BL ?_;first|refine BQ ?_)|(refine BR ?_;try simp only [setS]))|refine AA ?_|refine AC ?_|refine AD ?_|refine AE ?_|refine AF rfl rfl ?_|refine AG rfl rfl ?_|refine AH ?_|refine AI ?_|refine AJ ?_|refine AK ?_|refine AL ?_|refine AM ?_|refine AN ?_|refine AO ?_|refine AP ?_|refine AQ rfl ?_|refine AR ?_|refine AS ?_|refine AT rfl ?_|refine AU rfl ?_
    refine wb_loop (fun n t hh => ∃ (i : Nat) (out : List SM) (vo s5 s6 s7 s8 s13 s14 s15 : AV), i ≤ T0.length ∧ n = T0.length - i ∧ Keep NoB h3 hh ∧ out.length = i ∧ (∀ s ∈ out, I64 s.t ∧ I64Q s.q) ∧ OS hh 3 vo out.length (out.flatMap sc) ∧ (∀ k, blk vo k → h3.n ≤ k) ∧ aggG how ls [] T0 = aggG how ls out (T0.drop i) ∧ t = [.int .i64 how, v, .snil, .int .i64 0, vo, s5, s6, s7, s8, .bool false, tv, .int .i64 T0.length, .int .i64 i, s13, s14, s15]) ?_ T0.length _ _ ⟨0, [], .snil, _, _, _, _, _, _, _, by omega, by omega, Keep.refl _ _, rfl, (fun s hs => by cases hs), ⟨rfl, rfl⟩, (fun k q => q.elim), rfl, rfl⟩
    rintro n t hh ⟨i, out, vo, s5, s6, s7, s8, s13, s14, s15, hi, hm, K, hol, hoi, ho, hlo, hgo, rfl⟩
    by_cases hlt : i < T0.length
    · obtain ⟨t0, ht⟩ : ∃ t0, T0[i]? = some t0 := ⟨_, List.getElem?_eq_getElem hlt⟩
      obtain ⟨g, o, c0, c1⟩ := (rT.up K).at2 hlt
      have lc : ∀ {e : En} {t : List AV} {x : Od}, x.ev e t = .ptr g o → (Mv.ld1 x).ev e t hh = some (.int .i64 t0) := fun hx => by rw [c1 (Keep.refl NoB hh) (fun _ _ q => q) hx, iv_at ht]
      repeat first|(refine BG ?_;first|(refine BH ?_;first|(refine BI ?_;refine BM ?_)|(refine BJ ?_;first|refine BN ?_|refine BO ?_)|refine BV (c0 rfl rfl) ?_|refine BV (lc rfl) ?_|refine BP ?_)|(refine BK ?_;first|refine BS rfl rfl ?_|refine BT rfl rfl ?_|refine BU rfl ?_)|(refine BL ?_;first|refine BQ ?_)|(refine BR ?_;try simp only [setS]))|refine AA ?_|refine AC ?_|refine AD ?_|refine AE ?_|refine AF rfl rfl ?_|refine AG rfl rfl ?_|refine AH ?_|refine AI ?_|refine AJ ?_|refine AK ?_|refine AL ?_|refine AM ?_|refine AN ?_|refine AO ?_|refine AP ?_|refine AQ rfl ?_|refine AR ?_|refine AS ?_|refine AT rfl ?_|refine AU rfl ?_
      refine wr_call_e rfl ((aat_ok hE T.toQaL (a.up (K3.and K)) t0).mono fun x h4 ⟨k4, w, e4, hra, hfr⟩ => ?_)
      subst e4
      have hdr : T0.drop i = t0 :: T0.drop (i + 1) := by rw [List.drop_eq_getElem_cons hlt]; congr 1; exact (List.getElem?_eq_some_iff.1 ht).2
      have hgo2 : aggG how ls out (T0.drop i) = if (atsG t0 [] ls).2 ≠ 0 then ([], (atsG t0 [] ls).2) else if (foldF how (atsG t0 [] ls).1).2 ≠ 0 then ([], (foldF how (atsG t0 [] ls).1).2) else aggG how ls (out ++ [⟨t0, (foldF how (atsG t0 [] ls).1).1⟩]) (T0.drop (i + 1)) := by rw [hdr]; rfl
      rw [hgo2] at hgo
      have K4 := K.and k4
      have n3 := K3.n
      generalize atsG t0 [] ls = r at *
      obtain ⟨vals, er⟩ := r
      simp only at hra hgo
      by_cases her : er = 0
      case' neg =>
        rw [if_pos her] at hgo
        rw [hgo]
        have hne : (er != 0) = true := by simp [her]
        repeat first|(refine BG ?_;first|(refine BH ?_;first|(refine BI ?_;refine BM ?_)|(refine BJ ?_;first|refine BN ?_|refine BO ?_)|refine BV (v_nez rfl rfl hne) ?_|refine BP ?_)|(refine BK ?_;first|refine BS rfl rfl ?_|refine BT rfl rfl ?_|refine BU rfl ?_)|(refine BL ?_;first|refine BQ ?_)|(refine BR ?_;try simp only [setS]))|refine AA ?_|refine AC ?_|refine AD ?_|refine AE ?_|refine AF rfl rfl ?_|refine AG rfl rfl ?_|refine AH ?_|refine AI ?_|refine AJ ?_|refine AK ?_|refine AL ?_|refine AM ?_|refine AN ?_|refine AO ?_|refine AP ?_|refine AQ rfl ?_|refine AR ?_|refine AS ?_|refine AT rfl ?_|refine AU rfl ?_
        exact ⟨K3.and K4, .snil, rfl, nilS, fun k q => q.elim⟩
      subst her
      rw [if_neg (by simp)] at hgo
      repeat first|(refine BG ?_;first|(refine BH ?_;first|(refine BI ?_;refine BM ?_)|(refine BJ ?_;first|refine BN ?_|refine BO ?_)|refine BP ?_)|(refine BK ?_;first|refine BS rfl rfl ?_|refine BT rfl rfl ?_|refine BU rfl ?_)|(refine BL ?_;first|refine BQ ?_)|(refine BR ?_;try simp only [setS]))|refine AA ?_|refine AC ?_|refine AD ?_|refine AE ?_|refine AF rfl rfl ?_|refine AG rfl rfl ?_|refine AH ?_|refine AI ?_|refine AJ ?_|refine AK ?_|refine AL ?_|refine AM ?_|refine AN ?_|refine AO ?_|refine AP ?_|refine AQ rfl ?_|refine AR ?_|refine AS ?_|refine AT rfl ?_|refine AU rfl ?_
      refine wr_call_e rfl ((fdo_ok hE T.toQaF T.fdo hra how).mono fun x h5 ⟨k5, e5⟩ => ?_)
      subst e5
      have hfi := foldF_i64 (how := how) hra.row
      generalize foldF how vals = r at *
      obtain ⟨⟨n1, n2⟩, er⟩ := r
      have K5 := K4.and k5
      have bS : Bx (h5.push (.rw [.int .i64 0, .int .i64 0])) h5.n [.int .i64 0, .int .i64 0] := bx_push
      have kS : Keep NoB h5 (h5.push (.rw [.int .i64 0, .int .i64 0])) := Keep.push _ _ _
      repeat first|(refine BG ?_;first|(refine BH ?_;first|(refine BI ?_;refine BM ?_)|(refine BJ ?_;first|refine BN ?_|refine BO ?_)|refine BP ?_)|(refine BK ?_;first|refine BS rfl rfl ?_|refine BT rfl rfl ?_|refine BU rfl ?_)|(refine BL ?_;first|refine BW (ef_bxn bS rfl rfl rfl rfl (Nat.le_refl _)) ?_|refine BQ ?_)|(refine BR ?_;try simp only [setS]))|refine AA ?_|refine AC ?_|refine AD ?_|refine AE ?_|refine AF rfl rfl ?_|refine AG rfl rfl ?_|refine AH ?_|refine AI ?_|refine AJ ?_|refine AK ?_|refine AL ?_|refine AM ?_|refine AN ?_|refine AO ?_|refine AP ?_|refine AQ rfl ?_|refine AR ?_|refine AS ?_|refine AT rfl ?_|refine AU rfl ?_
      refine wb_hq (h' := (h5.push (.rw [.int .i64 0, .int .i64 0])).put h5.n (.rw [.int .i64 n1, .int .i64 n2])) rfl ?_
      have kS2 : Keep NoB h5 ((h5.push (.rw [.int .i64 0, .int .i64 0])).put h5.n (.rw [.int .i64 n1, .int .i64 n2])) := kS.own (Keep.put (h5.push (.rw [.int .i64 0, .int .i64 0])) h5.n (.rw [.int .i64 n1, .int .i64 n2]) (S := OneB h5.n) rfl) (fun k q => Nat.le_of_eq q.symm)
      have bS : Bx ((h5.push (.rw [.int .i64 0, .int .i64 0])).put h5.n (.rw [.int .i64 n1, .int .i64 n2])) h5.n [.int .i64 n1, .int .i64 n2] := bS.put
      have K6 := K5.and kS2
      have ho6 := ((ho.up k4).up k5).up kS2
      clear kS
      generalize (h5.push (.rw [.int .i64 0, .int .i64 0])).put h5.n (.rw [.int .i64 n1, .int .i64 n2]) = h6 at *
      by_cases her : er = 0
      case' neg =>
        rw [show (er != 0) = true by simp [her]]
        rw [if_pos her] at hgo
        rw [hgo]
        repeat first|(refine BG ?_;first|(refine BH ?_;first|(refine BI ?_;refine BM ?_)|(refine BJ ?_;first|refine BN ?_|refine BO ?_)|refine BP ?_)|(refine BK ?_;first|refine BS rfl rfl ?_|refine BT rfl rfl ?_|refine BU rfl ?_)|(refine BL ?_;first|refine BQ ?_)|(refine BR ?_;try simp only [setS]))|refine AA ?_|refine AC ?_|refine AD ?_|refine AE ?_|refine AF rfl rfl ?_|refine AG rfl rfl ?_|refine AH ?_|refine AI ?_|refine AJ ?_|refine AK ?_|refine AL ?_|refine AM ?_|refine AN ?_|refine AO ?_|refine AP ?_|refine AQ rfl ?_|refine AR ?_|refine AS ?_|refine AT rfl ?_|refine AU rfl ?_
        exact ⟨K3.and K6, .snil, rfl, nilS, fun k q => q.elim⟩
      subst her
      rw [if_neg (by simp)] at hgo
      repeat first|(refine BG ?_;first|(refine BH ?_;first|(refine BI ?_;refine BM ?_)|(refine BJ ?_;first|refine BN ?_|refine BO ?_)|refine BV (v_bxn bS rfl (Nat.le_refl _)) ?_|refine BP ?_)|(refine BK ?_;first|refine BS rfl rfl ?_|refine BT rfl rfl ?_|refine BU rfl ?_)|(refine BL ?_;first|refine BW (ef_bss (s := ⟨t0, (n1, n2)⟩) rfl) ?_|refine BQ ?_)|(refine BR ?_;try simp only [setS]))|refine AA ?_|refine AC ?_|refine AD ?_|refine AE ?_|refine AF rfl rfl ?_|refine AG rfl rfl ?_|refine AH ?_|refine AI ?_|refine AJ ?_|refine AK ?_|refine AL ?_|refine AM ?_|refine AN ?_|refine AO ?_|refine AP ?_|refine AQ rfl ?_|refine AR ?_|refine AS ?_|refine AT rfl ?_|refine AU rfl ?_
      have kq : Keep NoB h6 (h6.push (.rw (sc ⟨t0, (n1, n2)⟩))) := Keep.push _ _ _
      have n6 := K6.n
      refine wr_app_e rfl rfl (ho6.up kq) (by decide) (rs_push (n := 1) (z := 3) rfl) (by omega) (by omega) fun v' h' a1 a2 a3 => ?_
      have K7 := (K6.and kq).own a2 hlo
      have lo7 : ∀ k, blk v' k → h3.n ≤ k := fun k q => by
        rcases a3 k q with q | q
        · exact hlo k q
        · simp only [push_n] at q; omega
      repeat first|(refine BG ?_;first|(refine BH ?_;first|(refine BI ?_;refine BM ?_)|(refine BJ ?_;first|refine BN ?_|refine BO ?_)|refine BP ?_)|(refine BK ?_;first|refine BS rfl rfl ?_|refine BT rfl rfl ?_|refine BU rfl ?_)|(refine BL ?_;first|refine BQ ?_)|(refine BR ?_;try simp only [setS]))|refine AA ?_|refine AC ?_|refine AD ?_|refine AE ?_|refine AF rfl rfl ?_|refine AG rfl rfl ?_|refine AH ?_|refine AI ?_|refine AJ ?_|refine AK ?_|refine AL ?_|refine AM ?_|refine AN ?_|refine AO ?_|refine AP ?_|refine AQ rfl ?_|refine AR ?_|refine AS ?_|refine AT rfl ?_|refine AU rfl ?_
      rw [show ((i : Int) + 1) = ((i + 1 : Nat) : Int) by omega]
      refine round_norm (n - 1) (by omega) ⟨i + 1, out ++ [⟨t0, (n1, n2)⟩], v', _, _, _, _, _, _, _, by omega, by omega, K7, by rw [List.length_append]; simp; omega, fun s hs => ?_, ?_, lo7, hgo, rfl⟩
      · rcases List.mem_append.1 hs with hs | hs
        · exact hoi s hs
        · simp at hs; subst hs; exact ⟨ht64 t0 (List.mem_of_getElem? ht), hfi⟩
      · rw [List.length_append, List.flatMap_append]
        simpa using a1
    · obtain rfl : i = T0.length := by omega
      rw [List.drop_length] at hgo
      have hgo : aggG how ls [] T0 = (out, 0) := hgo
      rw [hgo]
      have n3 := K3.n
      repeat first|(refine BG ?_;first|(refine BH ?_;first|(refine BI ?_;refine BM ?_)|(refine BJ ?_;first|refine BN ?_|refine BO ?_)|refine BP ?_)|(refine BK ?_;first|refine BS rfl rfl ?_|refine BT rfl rfl ?_|refine BU rfl ?_)|(refine BL ?_;first|refine BQ ?_)|(refine BR ?_;try simp only [setS]))|refine AA ?_|refine AC ?_|refine AD ?_|refine AE ?_|refine AF rfl rfl ?_|refine AG rfl rfl ?_|refine AH ?_|refine AI ?_|refine AJ ?_|refine AK ?_|refine AL ?_|refine AM ?_|refine AN ?_|refine AO ?_|refine AP ?_|refine AQ rfl ?_|refine AR ?_|refine AS ?_|refine AT rfl ?_|refine AU rfl ?_
      exact ⟨K3.and K, vo, rfl, ⟨ho.rs, by omega, hoi⟩, fun k q => by have := hlo k q; omega⟩
end
end Am
end Go.Proofs.Ytkgplkddpigagaa
