/- Package agg: at. -/
import Derived.Test.YtkgplkddpigagaaQaG
set_option linter.unusedVariables false
set_option linter.unusedSimpArgs false
namespace Go.Proofs.Ytkgplkddpigagaa
namespace Am
open Go.RowKit
set_option maxRecDepth 100000
def b_aggAt : BF := ⟨35, [0, 1, 4, 5, 6, 8, 9, 10, 11, 12, 13, 14, 15, 26, 28], (.seq (.reg [.mk none (.slot 2) (.mov (.mv (.const .snil))), .mk none (.slot 3) (.mov (.mv (.const (.int .i64 0))))]) (.seq (.reg [.mk none (.slot 4) (.mov (.mv (.const .snil)))]) (.seq (.seq (.reg [.mk none (.slot 9) (.mov (.mv (.slot 1))), .mk none (.slot 10) (.mov (.lenv (.slot 9))), .mk none (.slot 11) (.mov (.mv (.const (.int .i64 0))))]) (.block 0 (.loop (.seq (.reg [.mk none (.slot 12) (.mov (.bin .lss .no (.slot 11) (.slot 10)))]) (.seq (.cond (.slot 12) .skip (.exit 0)) (.seq (.block 1 (.seq (.reg [.mk none (.env 16) (.mov (.iaddr 1 (.slot 9) (.slot 11))), .mk none (.env 17) (.mov (.ld1 (.env 16))), .mk none (.slot 5) (.mov (.mv (.env 17)))]) (.seq (.reg [.mk none (.env 19) (.mov (.mv (.slot 5))), .mk none (.env 20) (.mov (.mv (.slot 0))), .mk none (.env 21) (.call 16 [(.env 19), (.env 20)]), .mk none (.env 18) (.mov (.mv (.env 21))), .mk none (.env 22) (.mov (.ext 0 (.env 18))), .mk none (.env 23) (.mov (.ext 1 (.env 18))), .mk none (.env 24) (.mov (.ext 2 (.env 18))), .mk none (.slot 6) (.eff (.alloc [(.int .i64 0), (.int .i64 0)])), .mk none .none (.eff (.store 2 (.slot 6) (.env 22))), .mk none (.slot 7) (.mov (.mv (.env 23))), .mk none (.slot 8) (.mov (.mv (.env 24)))]) (.seq (.seq (.reg [.mk none (.env 25) (.mov (.mv (.slot 8))), .mk none (.slot 13) (.mov (.bin .neq .no (.env 25) (.const (.int .i64 0))))]) (.cond (.slot 13) (.seq (.reg [.mk none (.env 27) (.mov (.mv (.slot 8))), .mk none (.slot 2) (.mov (.mv (.const .snil))), .mk none (.slot 3) (.mov (.mv (.env 27)))]) .ret) .skip)) (.seq (.reg [.mk none (.slot 14) (.mov (.mv (.slot 7)))]) (.cond (.slot 14) (.reg [.mk none (.env 29) (.mov (.mv (.slot 4))), .mk none (.env 30) (.mov (.ldn 2 (.slot 6))), .mk none (.env 31) (.eff (.bslice 2 1 [(.int .i64 0), (.int .i64 0)] [(0, 2, (.env 30))])), .mk none (.env 32) (.eff (.append 2 16 (.env 29) (.env 31))), .mk none (.slot 4) (.mov (.mv (.env 32)))]) .skip)))))) (.reg [.mk none (.env 33) (.mov (.bin .add .no (.slot 11) (.const (.int .i64 1)))), .mk none (.slot 11) (.mov (.mv (.env 33)))]))))))) (.seq (.reg [.mk none (.env 34) (.mov (.mv (.slot 4))), .mk none (.slot 2) (.mov (.mv (.env 34))), .mk none (.slot 3) (.mov (.mv (.const (.int .i64 0))))]) .ret)))), [.slot (.slot 2), .slot (.slot 3)]⟩
def b_aggDo1 : BF := ⟨6, [0, 2], (.seq (.reg [.mk none (.slot 1) (.mov (.mv (.const (.bool false))))]) (.seq (.reg [.mk none (.env 3) (.mov (.mv (.slot 0))), .mk none (.env 4) (.call 25 [(.env 3)]), .mk none (.env 5) (.mov (.notb (.env 4))), .mk none (.slot 1) (.mov (.mv (.env 5)))]) .ret)), [.slot (.slot 1)]⟩
def b_hasSeries : BF := ⟨9, [0, 1, 4], (.seq (.reg [.mk none (.slot 2) (.mov (.mv (.const (.bool false))))]) (.seq (.reg [.mk none (.env 5) (.mov (.mv (.slot 0))), .mk none (.env 6) (.mov (.mv (.slot 1))), .mk none (.env 7) (.call 38 [(.env 5), (.env 6)]), .mk none (.env 8) (.mov (.bin .geq .no (.env 7) (.const (.int .i64 0)))), .mk none (.slot 2) (.mov (.mv (.env 8)))]) .ret)), [.slot (.slot 2)]⟩
def b_idxSeries : BF := ⟨19, [0, 1, 4, 5, 7, 8, 9, 16], (.seq (.reg [.mk none (.slot 2) (.mov (.mv (.const (.int .i64 0))))]) (.seq (.seq (.reg [.mk none (.env 6) (.mov (.mv (.slot 0))), .mk none (.slot 4) (.mov (.lenv (.env 6))), .mk none (.slot 5) (.mov (.mv (.const (.int .i64 0))))]) (.block 0 (.loop (.seq (.reg [.mk none (.slot 6) (.mov (.bin .lss .no (.slot 5) (.slot 4)))]) (.seq (.cond (.slot 6) .skip (.exit 0)) (.seq (.block 1 (.seq (.reg [.mk none (.env 10) (.mov (.mv (.slot 5))), .mk none (.slot 3) (.mov (.mv (.env 10)))]) (.seq (.reg [.mk none (.env 11) (.mov (.mv (.slot 1))), .mk none (.env 12) (.mov (.mv (.slot 0))), .mk none (.env 13) (.mov (.mv (.slot 3))), .mk none (.env 14) (.mov (.iaddr 1 (.env 12) (.env 13))), .mk none (.env 15) (.mov (.ld1 (.env 14))), .mk none (.slot 7) (.calv (.env 11) [(.env 15)])]) (.cond (.slot 7) (.seq (.reg [.mk none (.env 17) (.mov (.mv (.slot 3))), .mk none (.slot 2) (.mov (.mv (.env 17)))]) .ret) .skip)))) (.reg [.mk none (.env 18) (.mov (.bin .add .no (.slot 5) (.const (.int .i64 1)))), .mk none (.slot 5) (.mov (.mv (.env 18)))]))))))) (.seq (.reg [.mk none (.slot 2) (.mov (.mv (.const (.int .i64 (-1)))))]) .ret))), [.slot (.slot 2)]⟩
theorem betF_i64 {a b : SM} {t : Int} (ha : I64Q a.q) (hb : I64Q b.q) : I64Q (betF a b t).1 := by
  unfold betF
  repeat' split
  all_goals first | exact zero_i64 | exact ha | exact hb | exact addF_i64 _ _
theorem atR_i64 {l : List SM} {t : Int} (h : ∀ s ∈ l, I64Q s.q) : I64Q (atR l t).1.1 := by
  unfold atR
  split
  · rename_i s hs
    split
    · exact h s (List.mem_of_getElem? hs)
    · split
      · exact zero_i64
      · split
        · rename_i a ha
          exact betF_i64 (h a (List.mem_of_getElem? ha)) (h s (List.mem_of_getElem? hs))
        · exact zero_i64
  · exact zero_i64
theorem atF_i64 {l : List SM} {t : Int} (h : ∀ s ∈ l, I64Q s.q) : I64Q (atF l t).1.1 := by
  unfold atF
  split
  · exact atR_i64 h
  · exact zero_i64
noncomputable def atsG (t : Int) : List QQ → List (List SM) → List QQ × Int
  | out, [] => (out, 0)
  | out, l :: r => if (atF l t).2 ≠ 0 then ([], (atF l t).2) else atsG t (if (atF l t).1.2 = true then out ++ [(atF l t).1.1] else out) r
section
variable {X : Type} {h h' : Hp X}
structure Sers (h : Hp X) (v : AV) (ls : List (List SM)) : Prop where
  out : ∃ cells, RS h 1 v ls.length cells ∧ ∀ (i : Nat) l, ls[i]? = some l → ∃ c, cells[i]? = some c ∧ Ser h c l
  len : ls.length ≤ 1000
theorem Sers.up {v : AV} {ls : List (List SM)} (a : Sers h v ls) (k : Keep NoB h h') : Sers h' v ls := by
  obtain ⟨cells, h1, h2⟩ := a.out
  exact ⟨⟨cells, h1.up k, fun i l hi => by obtain ⟨c, h3, h4⟩ := h2 i l hi; exact ⟨c, h3, h4.up k⟩⟩, a.len⟩
theorem Ser.one {v : AV} {l : List SM} (a : Ser h v l) : cellsOf v = some [v] ∧ v.one = true := a.rs.one
theorem ef_bsq {e : En} {t : List AV} {x : Od} {q : QQ} (hx : x.ev e t = .agg [.int .i64 q.1, .int .i64 q.2]) : (Ef.bslice 2 1 [.int .i64 0, .int .i64 0] [(0, 2, x)]).ev e t h = some (.slice 2 h.n 0 1 (some 1), h.push (.rw (qc q))) := by
  simp only [Ef.ev, List.map, hx]
  rfl
end
section
variable {X : Type} {E : Nat → Option (Ent X)}
structure QaL (E : Nat → Option (Ent X)) : Prop extends QaF E where
  dright : E 25 = some (.bc b_downRight)
  place : E 32 = some (.bc b_lerpPlace)
  between : E 33 = some (.bc b_lerpBetween)
  lat : E 16 = some (.bc b_lerpAt)
  fdo : E 27 = some (.bc b_foldDo)
  aat : E 26 = some (.bc b_aggAt)
  ado1 : E 24 = some (.bc b_aggDo1)
  hasS : E 23 = some (.bc b_hasSeries)
  idxS : E 38 = some (.bc b_idxSeries)
set_option maxHeartbeats 2000000 in
theorem aat_ok (hE : ∀ f e, E f = some e → e.plain) (T : QaL E) {h : Hp X} {v : AV} {ls : List (List SM)} (a : Sers h v ls) (t0 : Int) :
    WF (lim E) 26 [.int .i64 t0, v] h fun x h' => Keep NoB h h' ∧ ∃ w, x = .tup [w, .int .i64 (atsG t0 [] ls).2] ∧ Rats h' w (atsG t0 [] ls).1 ∧ ∀ k, blk w k → h.n ≤ k := by
  have hmx : (maxLen : Nat) = 9223372036854775807 := rfl
  refine wf_bc hE T.aat rfl ?_
  simp only [b_aggAt, List.map, getS]
  have hlen := a.len
  obtain ⟨cells, hrs, hat⟩ := a.out
  repeat first|(refine BG ?_;first|(refine BH ?_;first|(refine BI ?_;refine BM ?_)|(refine BJ ?_;first|refine BN ?_|refine BO ?_)|refine BV (hrs.lenv (by rfl)) ?_|refine BP ?_)|(refine BK ?_;first|refine BS rfl rfl ?_|refine BT rfl rfl ?_|refine BU rfl ?_)|(refine BL ?_;first|refine BQ ?_)|(refine BR ?_;try simp only [setS]))|refine AA ?_|refine AC ?_|refine AD ?_|refine AE ?_|refine AF rfl rfl ?_|refine AG rfl rfl ?_|refine AH ?_|refine AI ?_|refine AJ ?_|refine AK ?_|refine AL ?_|refine AM ?_|refine AN ?_|refine AO ?_|refine AP ?_|refine AQ rfl ?_|refine AR ?_|refine AS ?_|refine AT rfl ?_|refine AU rfl ?_
  refine wb_loop (fun n t hh => ∃ (i : Nat) (out : List QQ) (vo s5 s6 s7 s8 s12 s13 s14 : AV), i ≤ ls.length ∧ n = ls.length - i ∧ Keep NoB h hh ∧ out.length ≤ i ∧ (∀ q ∈ out, I64Q q) ∧ OS hh 2 vo out.length (out.flatMap qc) ∧ (∀ k, blk vo k → h.n ≤ k) ∧ atsG t0 [] ls = atsG t0 out (ls.drop i) ∧ t = [.int .i64 t0, v, .snil, .int .i64 0, vo, s5, s6, s7, s8, v, .int .i64 ls.length, .int .i64 i, s12, s13, s14]) ?_ ls.length _ _ ⟨0, [], .snil, _, _, _, _, _, _, _, by omega, by omega, Keep.refl _ _, Nat.le_refl _, (fun q hq => by cases hq), ⟨rfl, rfl⟩, (fun k q => q.elim), rfl, rfl⟩
  rintro n t hh ⟨i, out, vo, s5, s6, s7, s8, s12, s13, s14, hi, hm, K, hol, hoi, ho, hlo, hgo, rfl⟩
  by_cases hlt : i < ls.length
  · obtain ⟨l, hl⟩ : ∃ l, ls[i]? = some l := ⟨_, List.getElem?_eq_getElem hlt⟩
    obtain ⟨c, hc, hser⟩ := hat i l hl
    obtain ⟨g, o, c0, c1⟩ := (hrs.up K).at2 hlt
    have lc : ∀ {e : En} {t : List AV} {x : Od}, x.ev e t = .ptr g o → (Mv.ld1 x).ev e t hh = some c := fun hx => by rw [c1 (Keep.refl NoB hh) (fun _ _ q => q) hx]; exact hc
    repeat first|(refine BG ?_;first|(refine BH ?_;first|(refine BI ?_;refine BM ?_)|(refine BJ ?_;first|refine BN ?_|refine BO ?_)|refine BV (c0 rfl rfl) ?_|refine BV (lc rfl) ?_|refine BP ?_)|(refine BK ?_;first|refine BS rfl rfl ?_|refine BT rfl rfl ?_|refine BU rfl ?_)|(refine BL ?_;first|refine BQ ?_)|(refine BR ?_;try simp only [setS]))|refine AA ?_|refine AC ?_|refine AD ?_|refine AE ?_|refine AF rfl rfl ?_|refine AG rfl rfl ?_|refine AH ?_|refine AI ?_|refine AJ ?_|refine AK ?_|refine AL ?_|refine AM ?_|refine AN ?_|refine AO ?_|refine AP ?_|refine AQ rfl ?_|refine AR ?_|refine AS ?_|refine AT rfl ?_|refine AU rfl ?_
    refine wr_call_e rfl ((lat_ok hE T.toQaS T.dright T.place T.between T.lat (hser.up K) t0).mono fun x h4 ⟨k4, e4⟩ => ?_)
    subst e4
    have hdr : ls.drop i = l :: ls.drop (i + 1) := by rw [List.drop_eq_getElem_cons hlt]; congr 1; exact (List.getElem?_eq_some_iff.1 hl).2
    have hgo2 : atsG t0 out (ls.drop i) = if (atF l t0).2 ≠ 0 then ([], (atF l t0).2) else atsG t0 (if (atF l t0).1.2 = true then out ++ [(atF l t0).1.1] else out) (ls.drop (i + 1)) := by rw [hdr]; rfl
    rw [hgo2] at hgo
    have hqi := atF_i64 (t := t0) (fun s hs => (hser.row s hs).2)
    generalize atF l t0 = r at *
    obtain ⟨⟨⟨n1, n2⟩, ok⟩, er⟩ := r
    have K4 := K.and k4
    have ho4 := ho.up k4
    have bS : Bx (h4.push (.rw [.int .i64 0, .int .i64 0])) h4.n [.int .i64 0, .int .i64 0] := bx_push
    have kS : Keep NoB h4 (h4.push (.rw [.int .i64 0, .int .i64 0])) := Keep.push _ _ _
    repeat first|(refine BG ?_;first|(refine BH ?_;first|(refine BI ?_;refine BM ?_)|(refine BJ ?_;first|refine BN ?_|refine BO ?_)|refine BP ?_)|(refine BK ?_;first|refine BS rfl rfl ?_|refine BT rfl rfl ?_|refine BU rfl ?_)|(refine BL ?_;first|refine BW (ef_bxn bS rfl rfl rfl rfl (Nat.le_refl _)) ?_|refine BQ ?_)|(refine BR ?_;try simp only [setS]))|refine AA ?_|refine AC ?_|refine AD ?_|refine AE ?_|refine AF rfl rfl ?_|refine AG rfl rfl ?_|refine AH ?_|refine AI ?_|refine AJ ?_|refine AK ?_|refine AL ?_|refine AM ?_|refine AN ?_|refine AO ?_|refine AP ?_|refine AQ rfl ?_|refine AR ?_|refine AS ?_|refine AT rfl ?_|refine AU rfl ?_
    refine wb_hq (h' := (h4.push (.rw [.int .i64 0, .int .i64 0])).put h4.n (.rw [.int .i64 n1, .int .i64 n2])) rfl ?_
    have kS2 : Keep NoB h4 ((h4.push (.rw [.int .i64 0, .int .i64 0])).put h4.n (.rw [.int .i64 n1, .int .i64 n2])) := kS.own (Keep.put (h4.push (.rw [.int .i64 0, .int .i64 0])) h4.n (.rw [.int .i64 n1, .int .i64 n2]) (S := OneB h4.n) rfl) (fun k q => Nat.le_of_eq q.symm)
    have bS : Bx ((h4.push (.rw [.int .i64 0, .int .i64 0])).put h4.n (.rw [.int .i64 n1, .int .i64 n2])) h4.n [.int .i64 n1, .int .i64 n2] := bS.put
    have ho5 := ho4.up kS2
    have K5 := K4.and kS2
    clear kS
    generalize (h4.push (.rw [.int .i64 0, .int .i64 0])).put h4.n (.rw [.int .i64 n1, .int .i64 n2]) = h5 at *
    by_cases her : er = 0
    case' neg =>
      rw [show (er != 0) = true by simp [her]]
      rw [if_pos her] at hgo
      rw [hgo]
      repeat first|(refine BG ?_;first|(refine BH ?_;first|(refine BI ?_;refine BM ?_)|(refine BJ ?_;first|refine BN ?_|refine BO ?_)|refine BP ?_)|(refine BK ?_;first|refine BS rfl rfl ?_|refine BT rfl rfl ?_|refine BU rfl ?_)|(refine BL ?_;first|refine BQ ?_)|(refine BR ?_;try simp only [setS]))|refine AA ?_|refine AC ?_|refine AD ?_|refine AE ?_|refine AF rfl rfl ?_|refine AG rfl rfl ?_|refine AH ?_|refine AI ?_|refine AJ ?_|refine AK ?_|refine AL ?_|refine AM ?_|refine AN ?_|refine AO ?_|refine AP ?_|refine AQ rfl ?_|refine AR ?_|refine AS ?_|refine AT rfl ?_|refine AU rfl ?_
      exact ⟨K5, .snil, rfl, ⟨⟨rfl, rfl⟩, by simp, (fun q hq => by cases hq)⟩, fun k q => q.elim⟩
    subst her
    rw [if_neg (by simp)] at hgo
    cases ok with
    | false =>
      repeat first|(refine BG ?_;first|(refine BH ?_;first|(refine BI ?_;refine BM ?_)|(refine BJ ?_;first|refine BN ?_|refine BO ?_)|refine BP ?_)|(refine BK ?_;first|refine BS rfl rfl ?_|refine BT rfl rfl ?_|refine BU rfl ?_)|(refine BL ?_;first|refine BQ ?_)|(refine BR ?_;try simp only [setS]))|refine AA ?_|refine AC ?_|refine AD ?_|refine AE ?_|refine AF rfl rfl ?_|refine AG rfl rfl ?_|refine AH ?_|refine AI ?_|refine AJ ?_|refine AK ?_|refine AL ?_|refine AM ?_|refine AN ?_|refine AO ?_|refine AP ?_|refine AQ rfl ?_|refine AR ?_|refine AS ?_|refine AT rfl ?_|refine AU rfl ?_
      rw [show ((i : Int) + 1) = ((i + 1 : Nat) : Int) by omega]
      exact round_norm (n - 1) (by omega) ⟨i + 1, out, vo, _, _, _, _, _, _, _, by omega, by omega, K5, by omega, hoi, ho5, hlo, hgo, rfl⟩
    | true =>
      rw [if_pos rfl] at hgo
      repeat first|(refine BG ?_;first|(refine BH ?_;first|(refine BI ?_;refine BM ?_)|(refine BJ ?_;first|refine BN ?_|refine BO ?_)|refine BV (v_bxn bS rfl (Nat.le_refl _)) ?_|refine BP ?_)|(refine BK ?_;first|refine BS rfl rfl ?_|refine BT rfl rfl ?_|refine BU rfl ?_)|(refine BL ?_;first|refine BW (ef_bsq (q := (n1, n2)) rfl) ?_|refine BQ ?_)|(refine BR ?_;try simp only [setS]))|refine AA ?_|refine AC ?_|refine AD ?_|refine AE ?_|refine AF rfl rfl ?_|refine AG rfl rfl ?_|refine AH ?_|refine AI ?_|refine AJ ?_|refine AK ?_|refine AL ?_|refine AM ?_|refine AN ?_|refine AO ?_|refine AP ?_|refine AQ rfl ?_|refine AR ?_|refine AS ?_|refine AT rfl ?_|refine AU rfl ?_
      have kq : Keep NoB h5 (h5.push (.rw (qc (n1, n2)))) := Keep.push _ _ _
      have hlo5 := K5.n
      refine wr_app_e rfl rfl (ho5.up kq) (by decide) (rs_push (n := 1) (z := 2) rfl) (by omega) (by omega) fun v' h' a1 a2 a3 => ?_
      have K6 := (K5.and kq).own a2 hlo
      have lo6 : ∀ k, blk v' k → h.n ≤ k := fun k q => by
        rcases a3 k q with q | q
        · exact hlo k q
        · simp only [push_n] at q; omega
      repeat first|(refine BG ?_;first|(refine BH ?_;first|(refine BI ?_;refine BM ?_)|(refine BJ ?_;first|refine BN ?_|refine BO ?_)|refine BP ?_)|(refine BK ?_;first|refine BS rfl rfl ?_|refine BT rfl rfl ?_|refine BU rfl ?_)|(refine BL ?_;first|refine BQ ?_)|(refine BR ?_;try simp only [setS]))|refine AA ?_|refine AC ?_|refine AD ?_|refine AE ?_|refine AF rfl rfl ?_|refine AG rfl rfl ?_|refine AH ?_|refine AI ?_|refine AJ ?_|refine AK ?_|refine AL ?_|refine AM ?_|refine AN ?_|refine AO ?_|refine AP ?_|refine AQ rfl ?_|refine AR ?_|refine AS ?_|refine AT rfl ?_|refine AU rfl ?_
      rw [show ((i : Int) + 1) = ((i + 1 : Nat) : Int) by omega]
      refine round_norm (n - 1) (by omega) ⟨i + 1, out ++ [(n1, n2)], v', _, _, _, _, _, _, _, by omega, by omega, K6, by rw [List.length_append]; simp; omega, fun q hq => ?_, ?_, lo6, hgo, rfl⟩
      · rcases List.mem_append.1 hq with hq | hq
        · exact hoi q hq
        · simp at hq; subst hq; exact hqi
      · rw [List.length_append, List.flatMap_append]
        simpa using a1
  · obtain rfl : i = ls.length := by omega
    rw [List.drop_length] at hgo
    have hgo : atsG t0 [] ls = (out, 0) := hgo
    rw [hgo]
    repeat first|(refine BG ?_;first|(refine BH ?_;first|(refine BI ?_;refine BM ?_)|(refine BJ ?_;first|refine BN ?_|refine BO ?_)|refine BP ?_)|(refine BK ?_;first|refine BS rfl rfl ?_|refine BT rfl rfl ?_|refine BU rfl ?_)|(refine BL ?_;first|refine BQ ?_)|(refine BR ?_;try simp only [setS]))|refine AA ?_|refine AC ?_|refine AD ?_|refine AE ?_|refine AF rfl rfl ?_|refine AG rfl rfl ?_|refine AH ?_|refine AI ?_|refine AJ ?_|refine AK ?_|refine AL ?_|refine AM ?_|refine AN ?_|refine AO ?_|refine AP ?_|refine AQ rfl ?_|refine AR ?_|refine AS ?_|refine AT rfl ?_|refine AU rfl ?_
    exact ⟨K, vo, rfl, ⟨ho.rs, by omega, hoi⟩, hlo⟩
end
end Am
end Go.Proofs.Ytkgplkddpigagaa
