/- Package agg: Times (slices.Sort as a function of its own), Do. -/
import Derived.Test.YtkgplkddpigagaaQaI
set_option linter.unusedVariables false
set_option linter.unusedSimpArgs false
namespace Go.Proofs.Ytkgplkddpigagaa
namespace Am
open Go.RowKit
set_option maxRecDepth 100000
def intsR : List AV → Option (List Int)
  | [] => some []
  | .int .i64 n :: l => (match intsR l with | some r => some (n :: r) | none => none)
  | _ :: _ => none
theorem intsR_iv : ∀ l : List Int, intsR (l.map iv) = some l
  | [] => rfl
  | n :: l => by
    show (match intsR (l.map iv) with | some r => some (n :: r) | none => none) = _
    rw [intsR_iv l]
def sortI (zs : List Int) : List Int := zs.mergeSort fun x y => decide (x ≤ y)
noncomputable def sortS {X : Type} (h : Hp X) (z g o n : Nat) : FRes X := match h.get g with
  | some (.rw l) => bif Nat.beq z 1 && Nat.ble (o + n) l.length && Nat.ble n 1000000 then (match intsR ((l.drop o).take n) with | some zs => .ret (.tup []) (h.put g (.rw (spl o ((sortI zs).map iv) l))) | none => .bad) else .bad
  | _ => .bad
noncomputable def n_sorti {X : Type} : Fn X := fun _ args h => match args with
  | [.snil] => .ret (.tup []) h
  | [.slice z g o n _] => sortS h z g o n
  | _ => .bad
theorem sortI_len (zs : List Int) : (sortI zs).length = zs.length := List.length_mergeSort _
section
variable {X : Type} {E : Nat → Option (Ent X)}
theorem w_sorti (hE : ∀ f e, E f = some e → e.plain) {f : Nat} (hf : E f = some (.nat n_sorti)) {h : Hp X} {v : AV} {zs : List Int} (a : OS h 1 v zs.length (zs.map iv)) (hn : zs.length ≤ 1000000) :
    WF (lim E) f [v] h fun x h' => OS h' 1 v zs.length ((sortI zs).map iv) ∧ Keep (blk v) h h' := by
  cases v <;> first | exact a.elim | skip
  case snil =>
    have hz : zs = [] := List.eq_nil_of_length_eq_zero a.1
    subst hz
    have e : ∀ D, n_sorti D [.snil] h = .ret (.tup []) h := fun D => rfl
    exact ⟨⟨_, _, (lim_nat hE hf (D := lim E) (by rw [e]; intro q; cases q)).trans (e _), ⟨rfl, by simp [sortI]⟩, Keep.refl _ _⟩⟩
  rename_i z g o n cap
  obtain ⟨rfl, hzl, hz, hg, l, hl, hle, hc, hcap⟩ := a
  subst hzl
  rw [Nat.mul_one] at hc hle
  have e : ∀ D, n_sorti D [.slice 1 g o zs.length cap] h = .ret (.tup []) (h.put g (.rw (spl o ((sortI zs).map iv) l))) := fun D => by
    show sortS h 1 g o zs.length = _
    unfold sortS
    rw [hl]
    simp only [Nat.beq_refl, ble_t hle, ble_t hn, Bool.and_self, cond_true]
    rw [← hc, intsR_iv]
  have hsl : ((sortI zs).map iv).length = zs.length := by rw [List.length_map, sortI_len]
  refine ⟨⟨_, _, (lim_nat hE hf (D := lim E) (by rw [e]; intro q; cases q)).trans (e _), ⟨rfl, rfl, hz, hg, _, Hp.put_self _ _ _, ?_, ?_, ?_⟩, Keep.put _ _ _ rfl⟩⟩
  · rw [spl_len2 (by omega)]; omega
  · unfold spl
    have q1 : o ≤ (List.take o l).length := by rw [List.length_take]; omega
    rw [List.drop_append_of_le_length q1, List.drop_take, Nat.sub_self, List.take_zero, List.nil_append, Nat.mul_one, ← hsl, List.take_left]
  · rw [spl_len2 (by omega)]; exact hcap
def timesL (ls : List (List SM)) : List Int := ls.flatMap fun l => l.map SM.t
def timesF (ls : List (List SM)) : List Int := dd (sortI (timesL ls))
structure QaM (E : Nat → Option (Ent X)) : Prop extends QaL E where
  times : E 15 = some (.bc b_aggTimes)
  compact : E 31 = some (.bc b_compactI64)
  sort : E 30 = some (.nat n_sorti)
theorem ef_bs1i {h : Hp X} {e : En} {t : List AV} {x : Od} {a : Int} (hx : x.ev e t = .int .i64 a) : (Ef.bslice 1 1 [.int .i64 0] [(0, 1, x)]).ev e t h = some (.slice 1 h.n 0 1 (some 1), h.push (.rw [.int .i64 a])) := by
  simp only [Ef.ev, List.map, hx]
  rfl
theorem timesL_len {ls : List (List SM)} {m : Nat} (hm : ∀ l ∈ ls, l.length ≤ m) : (timesL ls).length ≤ ls.length * m := by
  induction ls with
  | nil => simp [timesL]
  | cons l ls ih =>
    have h1 := ih (fun l' h' => hm l' (List.mem_cons_of_mem _ h'))
    have h2 := hm l (List.mem_cons_self ..)
    unfold timesL at h1 ⊢
    rw [List.flatMap_cons, List.length_append, List.length_map, List.length_cons, Nat.succ_mul]
    omega
set_option maxHeartbeats 2000000 in
theorem times_ok (hE : ∀ f e, E f = some e → e.plain) (T : QaM E) {h : Hp X} {v : AV} {ls : List (List SM)} (a : Sers h v ls) (hl2 : ∀ l ∈ ls, l.length ≤ 1000) :
    WF (lim E) 15 [v] h fun x h' => Keep NoB h h' ∧ RS h' 1 x (timesF ls).length ((timesF ls).map iv) := by
  have hmx : (maxLen : Nat) = 9223372036854775807 := rfl
  refine wf_bc hE T.times rfl ?_
  simp only [b_aggTimes, List.map, getS]
  have hlen := a.len
  have htot := timesL_len hl2
  have htot2 : ls.length * 1000 ≤ 1000000 := by omega
  obtain ⟨cells, hrs, hat⟩ := a.out
  repeat first|(refine BG ?_;first|(refine BH ?_;first|(refine BI ?_;refine BM ?_)|(refine BJ ?_;first|refine BN ?_|refine BO ?_)|refine BV (hrs.lenv (by rfl)) ?_|refine BP ?_)|(refine BK ?_;first|refine BS rfl rfl ?_|refine BT rfl rfl ?_|refine BU rfl ?_)|(refine BL ?_;first|refine BQ ?_)|(refine BR ?_;try simp only [setS]))|refine AA ?_|refine AC ?_|refine AD ?_|refine AE ?_|refine AF rfl rfl ?_|refine AG rfl rfl ?_|refine AH ?_|refine AI ?_|refine AJ ?_|refine AK ?_|refine AL ?_|refine AM ?_|refine AN ?_|refine AO ?_|refine AP ?_|refine AQ rfl ?_|refine AR ?_|refine AS ?_|refine AT rfl ?_|refine AU rfl ?_
  refine wb_loop (fun n t hh => ∃ (i : Nat) (out : List Int) (vo s3 s4 s8 s9 s10 s11 s12 : AV), i ≤ ls.length ∧ n = ls.length - i ∧ Keep NoB h hh ∧ OS hh 1 vo out.length (out.map iv) ∧ (∀ k, blk vo k → h.n ≤ k) ∧ out = timesL (ls.take i) ∧ t = [v, .snil, vo, s3, s4, v, .int .i64 ls.length, .int .i64 i, s8, s9, s10, s11, s12]) ?_ ls.length _ _ ⟨0, [], .snil, _, _, _, _, _, _, _, by omega, by omega, Keep.refl _ _, ⟨rfl, rfl⟩, fun k q => q.elim, rfl, rfl⟩
  rintro n0 t hh ⟨i, out, vo, s3, s4, s8, s9, s10, s11, s12, hi, hm, K, ho, hlo, hout, rfl⟩
  by_cases hlt : i < ls.length
  · obtain ⟨l, hl⟩ : ∃ l, ls[i]? = some l := ⟨_, List.getElem?_eq_getElem hlt⟩
    obtain ⟨c, hc, hser⟩ := hat i l hl
    obtain ⟨g, o, c0, c1⟩ := (hrs.up K).at2 hlt
    have lc : ∀ {e : En} {t : List AV} {x : Od}, x.ev e t = .ptr g o → (Mv.ld1 x).ev e t hh = some c := fun hx => by rw [c1 (Keep.refl NoB hh) (fun _ _ q => q) hx]; exact hc
    have hll := hl2 l (List.mem_of_getElem? hl)
    have hol : out.length ≤ i * 1000 := by
      have h1 := timesL_len (ls := ls.take i) (m := 1000) (fun l' h' => hl2 l' (List.mem_of_mem_take h'))
      rw [← hout, List.length_take, Nat.min_eq_left (by omega)] at h1
      exact h1
    repeat first|(refine BG ?_;first|(refine BH ?_;first|(refine BI ?_;refine BM ?_)|(refine BJ ?_;first|refine BN ?_|refine BO ?_)|refine BP ?_)|(refine BK ?_;first|refine BS rfl rfl ?_|refine BT rfl rfl ?_|refine BU rfl ?_)|(refine BL ?_;first|refine BQ ?_)|(refine BR ?_;try simp only [setS]))|refine AA ?_|refine AC ?_|refine AD ?_|refine AE ?_|refine AF rfl rfl ?_|refine AG rfl rfl ?_|refine AH ?_|refine AI ?_|refine AJ ?_|refine AK ?_|refine AL ?_|refine AM ?_|refine AN ?_|refine AO ?_|refine AP ?_|refine AQ rfl ?_|refine AR ?_|refine AS ?_|refine AT rfl ?_|refine AU rfl ?_
    repeat first|(refine BG ?_;first|(refine BH ?_;first|(refine BI ?_;refine BM ?_)|(refine BJ ?_;first|refine BN ?_|refine BO ?_)|refine BV (c0 rfl rfl) ?_|refine BV (lc rfl) ?_|refine BV (hser.rs.lenv (by rfl)) ?_|refine BP ?_)|(refine BK ?_;first|refine BS rfl rfl ?_|refine BT rfl rfl ?_|refine BU rfl ?_)|(refine BL ?_;first|refine BQ ?_)|(refine BR ?_;try simp only [setS]))|refine AA ?_|refine AC ?_|refine AD ?_|refine AE ?_|refine AF rfl rfl ?_|refine AG rfl rfl ?_|refine AI ?_|refine AJ ?_|refine AK ?_|refine AL ?_|refine AM ?_|refine AN ?_|refine AO ?_|refine AP ?_|refine AQ rfl ?_|refine AR ?_|refine AS ?_|refine AT rfl ?_|refine AU rfl ?_
    have es : timesL (ls.take (i + 1)) = out ++ l.map SM.t := by rw [hout, List.take_add_one, hl]; unfold timesL; rw [List.flatMap_append]; simp
    · repeat first|(refine BG ?_;first|(refine BH ?_;first|(refine BI ?_;refine BM ?_)|(refine BJ ?_;first|refine BN ?_|refine BO ?_)|refine BP ?_)|(refine BK ?_;first|refine BS rfl rfl ?_|refine BT rfl rfl ?_|refine BU rfl ?_)|(refine BL ?_;first|refine BQ ?_)|(refine BR ?_;try simp only [setS]))|refine AA ?_|refine AC ?_|refine AD ?_|refine AE ?_|refine AF rfl rfl ?_|refine AG rfl rfl ?_|refine AH ?_|refine AI ?_|refine AJ ?_|refine AK ?_|refine AL ?_|refine AM ?_|refine AN ?_|refine AO ?_|refine AP ?_|refine AQ rfl ?_|refine AR ?_|refine AS ?_|refine AT rfl ?_|refine AU rfl ?_
      refine wb_loop (fun n t hh2 => ∃ (j : Nat) (vo s4 s12 : AV), j ≤ l.length ∧ n = l.length - j ∧ Keep NoB h hh2 ∧ OS hh2 1 vo (out ++ (l.take j).map SM.t).length ((out ++ (l.take j).map SM.t).map iv) ∧ (∀ k, blk vo k → h.n ≤ k) ∧ t = [v, .snil, vo, c, s4, v, .int .i64 ls.length, .int .i64 i, .bool true, c, .int .i64 l.length, .int .i64 j, s12]) ?_ l.length _ _ ⟨0, vo, _, _, by omega, by omega, K, by rw [List.take_zero, List.map_nil, List.append_nil]; exact ho, hlo, rfl⟩
      rintro n t hh2 ⟨j, vo, s4, s12, hj, hm2, K2, ho2, hlo2, rfl⟩
      by_cases hjl : j < l.length
      · obtain ⟨s, hs⟩ : ∃ s, l[j]? = some s := ⟨_, List.getElem?_eq_getElem hjl⟩
        obtain ⟨g', o', d0, d1, d2, d3⟩ := (hser.up K2).rs.atS hs
        have kr := Keep.refl (NoB) (hh2 : Hp X)
        have bS : Bx (hh2.push (.rw [.int .i64 0, .int .i64 0, .int .i64 0])) hh2.n [.int .i64 0, .int .i64 0, .int .i64 0] := bx_push
        have kS : Keep NoB hh2 (hh2.push (.rw [.int .i64 0, .int .i64 0, .int .i64 0])) := Keep.push _ _ _
        repeat first|(refine BG ?_;first|(refine BH ?_;first|(refine BI ?_;refine BM ?_)|(refine BJ ?_;first|refine BN ?_|refine BO ?_)|refine BV (d0 rfl rfl) ?_|refine BV (d3 kr rfl) ?_|refine BP ?_)|(refine BK ?_;first|refine BS rfl rfl ?_|refine BT rfl rfl ?_|refine BU rfl ?_)|(refine BL ?_;first|refine BW (ef_bxn bS rfl rfl int_all3 rfl (Nat.le_refl _)) ?_|refine BQ ?_)|(refine BR ?_;try simp only [setS]))|refine AA ?_|refine AC ?_|refine AD ?_|refine AE ?_|refine AF rfl rfl ?_|refine AG rfl rfl ?_|refine AH ?_|refine AI ?_|refine AJ ?_|refine AK ?_|refine AL ?_|refine AM ?_|refine AN ?_|refine AO ?_|refine AP ?_|refine AQ rfl ?_|refine AR ?_|refine AS ?_|refine AT rfl ?_|refine AU rfl ?_
        refine wr_heap (h' := (hh2.push (.rw [.int .i64 0, .int .i64 0, .int .i64 0])).put hh2.n (.rw (sc s))) rfl ?_
        have kS2 : Keep NoB hh2 ((hh2.push (.rw [.int .i64 0, .int .i64 0, .int .i64 0])).put hh2.n (.rw (sc s))) := kS.own (Keep.put (hh2.push (.rw [.int .i64 0, .int .i64 0, .int .i64 0])) hh2.n (.rw (sc s)) (S := OneB hh2.n) rfl) (fun k q => Nat.le_of_eq q.symm)
        have bS : Bx ((hh2.push (.rw [.int .i64 0, .int .i64 0, .int .i64 0])).put hh2.n (.rw (sc s))) hh2.n (sc s) := bS.put
        have ho3 := ho2.up kS2
        have K3 := K2.and kS2
        clear kS
        generalize (hh2.push (.rw [.int .i64 0, .int .i64 0, .int .i64 0])).put hh2.n (.rw (sc s)) = h3 at *
        repeat first|(refine BG ?_;first|(refine BH ?_;first|(refine BI ?_;refine BM ?_)|(refine BJ ?_;first|refine BN ?_|refine BO ?_)|refine BV (v_bx bS rfl rfl) ?_|refine BP ?_)|(refine BK ?_;first|refine BS rfl rfl ?_|refine BT rfl rfl ?_|refine BU rfl ?_)|(refine BL ?_;first|refine BW (ef_bs1i rfl) ?_|refine BQ ?_)|(refine BR ?_;try simp only [setS]))|refine AA ?_|refine AC ?_|refine AD ?_|refine AE ?_|refine AF rfl rfl ?_|refine AG rfl rfl ?_|refine AH ?_|refine AI ?_|refine AJ ?_|refine AK ?_|refine AL ?_|refine AM ?_|refine AN ?_|refine AO ?_|refine AP ?_|refine AQ rfl ?_|refine AR ?_|refine AS ?_|refine AT rfl ?_|refine AU rfl ?_
        have kq : Keep NoB h3 (h3.push (.rw [.int .i64 s.t])) := Keep.push _ _ _
        have hn3 := K3.n
        have hol2 : (out ++ (l.take j).map SM.t).length ≤ 1000000 + 1000 := by rw [List.length_append, List.length_map, List.length_take]; omega
        refine wr_app_e rfl rfl (ho3.up kq) (by decide) (rs_push (l := [.int .i64 s.t]) (n := 1) (z := 1) rfl) (by omega) (by omega) fun v' h' a1 a2 a3 => ?_
        have K6 := (K3.and kq).own a2 hlo2
        have lo6 : ∀ k, blk v' k → h.n ≤ k := fun k q => by
          rcases a3 k q with q | q
          · exact hlo2 k q
          · simp only [push_n] at q; omega
        have e5 : (out ++ (l.take j).map SM.t).map iv ++ [.int .i64 s.t] = (out ++ (l.take (j + 1)).map SM.t).map iv := by
          rw [List.take_add_one, hs]
          simp [iv]
        have e6 : (out ++ (l.take j).map SM.t).length + 1 = (out ++ (l.take (j + 1)).map SM.t).length := by
          rw [List.take_add_one, hs]
          simp
          omega
        rw [e5, e6] at a1
        repeat first|(refine BG ?_;first|(refine BH ?_;first|(refine BI ?_;refine BM ?_)|(refine BJ ?_;first|refine BN ?_|refine BO ?_)|refine BP ?_)|(refine BK ?_;first|refine BS rfl rfl ?_|refine BT rfl rfl ?_|refine BU rfl ?_)|(refine BL ?_;first|refine BQ ?_)|(refine BR ?_;try simp only [setS]))|refine AA ?_|refine AC ?_|refine AD ?_|refine AE ?_|refine AF rfl rfl ?_|refine AG rfl rfl ?_|refine AH ?_|refine AI ?_|refine AJ ?_|refine AK ?_|refine AL ?_|refine AM ?_|refine AN ?_|refine AO ?_|refine AP ?_|refine AQ rfl ?_|refine AR ?_|refine AS ?_|refine AT rfl ?_|refine AU rfl ?_
        rw [show ((j : Int) + 1) = ((j + 1 : Nat) : Int) by omega]
        exact round_norm (n - 1) (by omega) ⟨j + 1, v', _, _, by omega, by omega, K6, a1, lo6, rfl⟩
      · obtain rfl : j = l.length := by omega
        rw [List.take_length] at ho2
        repeat first|(refine BG ?_;first|(refine BH ?_;first|(refine BI ?_;refine BM ?_)|(refine BJ ?_;first|refine BN ?_|refine BO ?_)|refine BP ?_)|(refine BK ?_;first|refine BS rfl rfl ?_|refine BT rfl rfl ?_|refine BU rfl ?_)|(refine BL ?_;first|refine BQ ?_)|(refine BR ?_;try simp only [setS]))|refine AA ?_|refine AC ?_|refine AD ?_|refine AE ?_|refine AF rfl rfl ?_|refine AG rfl rfl ?_|refine AH ?_|refine AI ?_|refine AJ ?_|refine AK ?_|refine AL ?_|refine AM ?_|refine AN ?_|refine AO ?_|refine AP ?_|refine AQ rfl ?_|refine AR ?_|refine AS ?_|refine AT rfl ?_|refine AU rfl ?_
        rw [show ((i : Int) + 1) = ((i + 1 : Nat) : Int) by omega]
        exact round_norm (n0 - 1) (by omega) ⟨i + 1, out ++ l.map SM.t, vo, _, _, _, _, _, _, _, by omega, by omega, K2, ho2, hlo2, es.symm, rfl⟩
  · rw [List.take_of_length_le (by omega)] at hout
    repeat first|(refine BG ?_;first|(refine BH ?_;first|(refine BI ?_;refine BM ?_)|(refine BJ ?_;first|refine BN ?_|refine BO ?_)|refine BP ?_)|(refine BK ?_;first|refine BS rfl rfl ?_|refine BT rfl rfl ?_|refine BU rfl ?_)|(refine BL ?_;first|refine BQ ?_)|(refine BR ?_;try simp only [setS]))|refine AA ?_|refine AC ?_|refine AD ?_|refine AE ?_|refine AF rfl rfl ?_|refine AG rfl rfl ?_|refine AH ?_|refine AI ?_|refine AJ ?_|refine AK ?_|refine AL ?_|refine AM ?_|refine AN ?_|refine AO ?_|refine AP ?_|refine AQ rfl ?_|refine AR ?_|refine AS ?_|refine AT rfl ?_|refine AU rfl ?_
    have ho1 : out.length ≤ 1000000 := by rw [hout]; omega
    refine wr_call_e rfl ((w_sorti hE T.sort ho ho1).mono fun x h2 ⟨o2, k2⟩ => ?_)
    rw [← sortI_len out] at o2
    repeat first|(refine BG ?_;first|(refine BH ?_;first|(refine BI ?_;refine BM ?_)|(refine BJ ?_;first|refine BN ?_|refine BO ?_)|refine BP ?_)|(refine BK ?_;first|refine BS rfl rfl ?_|refine BT rfl rfl ?_|refine BU rfl ?_)|(refine BL ?_;first|refine BQ ?_)|(refine BR ?_;try simp only [setS]))|refine AA ?_|refine AC ?_|refine AD ?_|refine AE ?_|refine AF rfl rfl ?_|refine AG rfl rfl ?_|refine AH ?_|refine AI ?_|refine AJ ?_|refine AK ?_|refine AL ?_|refine AM ?_|refine AN ?_|refine AO ?_|refine AP ?_|refine AQ rfl ?_|refine AR ?_|refine AS ?_|refine AT rfl ?_|refine AU rfl ?_
    refine wr_call_e rfl ((compact_ok hE T.compact o2 (by rw [sortI_len]; exact ho1)).mono fun x h3 ⟨k3, r3, _⟩ => ?_)
    repeat first|(refine BG ?_;first|(refine BH ?_;first|(refine BI ?_;refine BM ?_)|(refine BJ ?_;first|refine BN ?_|refine BO ?_)|refine BP ?_)|(refine BK ?_;first|refine BS rfl rfl ?_|refine BT rfl rfl ?_|refine BU rfl ?_)|(refine BL ?_;first|refine BQ ?_)|(refine BR ?_;try simp only [setS]))|refine AA ?_|refine AC ?_|refine AD ?_|refine AE ?_|refine AF rfl rfl ?_|refine AG rfl rfl ?_|refine AH ?_|refine AI ?_|refine AJ ?_|refine AK ?_|refine AL ?_|refine AM ?_|refine AN ?_|refine AO ?_|refine AP ?_|refine AQ rfl ?_|refine AR ?_|refine AS ?_|refine AT rfl ?_|refine AU rfl ?_
    unfold timesF
    rw [← hout]
    exact ⟨(K.own k2 hlo).own k3 hlo, r3⟩
end
end Am
end Go.Proofs.Ytkgplkddpigagaa
