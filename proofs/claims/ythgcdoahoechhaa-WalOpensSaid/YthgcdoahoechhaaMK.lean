/- Entries as they lie in memory; package frame: value, Batch. Regions that draw and lay rows, append; chapter 4's own Batch; its reader's Some. Package frame: one entry that is read. Functions that defer a call which recovers, walked; package frame: read, Entries. Package frame: read. Package frame: Entries. Lists of entries, of batches, that more is put behind. -/
import Derived.Test.YthgcdoahoechhaaMJ
import Derived.Test.YthgcdoahoechhaaMN
set_option linter.unusedVariables false
set_option linter.unusedSimpArgs false
namespace Go.Proofs.Ythgcdoahoechhaa
namespace Am
open Go.RowKit
set_option maxRecDepth 100000
def b_frValue : BF := ⟨7, [0, 1, 2, 4], (.seq (.reg [.mk none (.slot 1) (.eff (.box (.slot 0))), .mk none (.slot 2) (.mov (.mv (.const .snil)))]) (.seq (.seq (.reg [.mk none (.env 3) (.mov (.faddr 2 (.slot 1))), .mk none (.slot 3) (.mov (.ld1 (.env 3)))]) (.cond (.slot 3) (.seq (.reg [.mk none (.slot 2) (.mov (.mv (.const .snil)))]) .ret) .skip)) (.seq (.reg [.mk none (.env 5) (.mov (.faddr 1 (.slot 1))), .mk none (.env 6) (.mov (.ld1 (.env 5))), .mk none (.slot 2) (.mov (.mv (.env 6)))]) .ret))), [.slot (.slot 2)]⟩
def b_frBatch : BF := ⟨65, [0, 2, 3, 4, 6, 7, 8, 11, 16, 17, 18, 19, 38, 40, 55], (.seq (.reg [.mk none (.slot 1) (.mov (.mv (.const .snil))), .mk none (.slot 2) (.mov (.mv (.const (.int .i64 0))))]) (.seq (.seq (.reg [.mk none (.env 9) (.mov (.mv (.slot 0))), .mk none (.env 10) (.mov (.lenv (.env 9))), .mk none (.slot 7) (.mov (.bin .gtr .no (.env 10) (.const (.int .i64 8191))))]) (.cond (.slot 7) (.seq (.reg [.mk none (.slot 1) (.mov (.mv (.const .snil))), .mk none (.slot 2) (.mov (.mv (.const (.int .i64 3))))]) .ret) .skip)) (.seq (.reg [.mk none (.env 12) (.mov (.mv (.slot 0))), .mk none (.env 13) (.mov (.lenv (.env 12))), .mk none (.env 14) (.mov (.conv .u64 (.env 13))), .mk none (.env 15) (.call 106 [(.const .snil), (.env 14), (.const (.int .i64 2))]), .mk none (.slot 3) (.mov (.mv (.env 15)))]) (.seq (.seq (.reg [.mk none (.slot 8) (.mov (.mv (.slot 0))), .mk none (.slot 9) (.mov (.lenv (.slot 8))), .mk none (.slot 10) (.mov (.mv (.const (.int .i64 0))))]) (.block 0 (.loop (.seq (.reg [.mk none (.slot 11) (.mov (.bin .lss .no (.slot 10) (.slot 9)))]) (.seq (.cond (.slot 11) .skip (.exit 0)) (.seq (.block 1 (.seq (.reg [.mk none (.env 20) (.mov (.iaddr 3 (.slot 8) (.slot 10))), .mk none (.env 21) (.mov (.ldn 3 (.env 20))), .mk none (.slot 4) (.eff (.alloc [.snil, .snil, (.bool false)])), .mk none .none (.eff (.store 3 (.slot 4) (.env 21)))]) (.seq (.reg [.mk none (.env 22) (.mov (.ldn 3 (.slot 4))), .mk none (.env 23) (.call 107 [(.env 22)]), .mk none (.slot 5) (.mov (.mv (.env 23)))]) (.seq (.seq (.reg [.mk none (.env 24) (.mov (.faddr 0 (.slot 4))), .mk none (.env 25) (.mov (.ld1 (.env 24))), .mk none (.env 26) (.mov (.lenv (.env 25))), .mk none (.env 27) (.mov (.bin .lss .no (.env 26) (.const (.int .i64 1)))), .mk none (.env 28) (.mov (.mv (.env 27))), .mk (some ((.env 28), false)) (.env 29) (.mov (.faddr 0 (.slot 4))), .mk (some ((.env 28), false)) (.env 30) (.mov (.ld1 (.env 29))), .mk (some ((.env 28), false)) (.env 31) (.mov (.lenv (.env 30))), .mk (some ((.env 28), false)) (.env 32) (.mov (.bin .gtr .no (.env 31) (.const (.int .i64 255)))), .mk none (.env 33) (.mov (.pick (.env 28) (.const (.bool true)) (.env 32))), .mk none (.env 34) (.mov (.mv (.env 33))), .mk (some ((.env 34), false)) (.env 35) (.mov (.mv (.slot 5))), .mk (some ((.env 34), false)) (.env 36) (.mov (.lenv (.env 35))), .mk (some ((.env 34), false)) (.env 37) (.mov (.bin .gtr .no (.env 36) (.const (.int .i64 4095)))), .mk none (.slot 12) (.mov (.pick (.env 34) (.const (.bool true)) (.env 37)))]) (.cond (.slot 12) (.seq (.reg [.mk none (.slot 1) (.mov (.mv (.const .snil))), .mk none (.slot 2) (.mov (.mv (.const (.int .i64 3))))]) .ret) .skip)) (.seq (.reg [.mk none (.slot 6) (.mov (.mv (.const (.int .u8 1))))]) (.seq (.seq (.reg [.mk none (.env 39) (.mov (.faddr 2 (.slot 4))), .mk none (.slot 13) (.mov (.ld1 (.env 39)))]) (.cond (.slot 13) (.reg [.mk none (.slot 6) (.mov (.mv (.const (.int .u8 0))))]) .skip)) (.seq (.reg [.mk none (.env 41) (.mov (.mv (.slot 3))), .mk none (.env 42) (.mov (.mv (.slot 6))), .mk none (.env 43) (.mov (.faddr 0 (.slot 4))), .mk none (.env 44) (.mov (.ld1 (.env 43))), .mk none (.env 45) (.mov (.lenv (.env 44))), .mk none (.env 46) (.mov (.conv .u8 (.env 45))), .mk none (.env 47) (.eff (.bslice 1 2 [(.int .u8 0)] [(0, 1, (.env 42)), (1, 1, (.env 46))])), .mk none (.env 48) (.eff (.append 1 1 (.env 41) (.env 47))), .mk none (.slot 3) (.mov (.mv (.env 48)))]) (.seq (.reg [.mk none (.env 49) (.mov (.mv (.slot 3))), .mk none (.env 50) (.mov (.faddr 0 (.slot 4))), .mk none (.env 51) (.mov (.ld1 (.env 50))), .mk none (.env 52) (.eff (.append 1 1 (.env 49) (.env 51))), .mk none (.slot 3) (.mov (.mv (.env 52)))]) (.seq (.reg [.mk none (.env 53) (.mov (.faddr 2 (.slot 4))), .mk none (.env 54) (.mov (.ld1 (.env 53))), .mk none (.slot 14) (.mov (.notb (.env 54)))]) (.cond (.slot 14) (.reg [.mk none (.env 56) (.mov (.mv (.slot 3))), .mk none (.env 57) (.mov (.mv (.slot 5))), .mk none (.env 58) (.mov (.lenv (.env 57))), .mk none (.env 59) (.mov (.conv .u64 (.env 58))), .mk none (.env 60) (.call 106 [(.env 56), (.env 59), (.const (.int .i64 2))]), .mk none (.env 61) (.mov (.mv (.slot 5))), .mk none (.env 62) (.eff (.append 1 1 (.env 60) (.env 61))), .mk none (.slot 3) (.mov (.mv (.env 62)))]) .skip)))))))))) (.reg [.mk none (.env 63) (.mov (.bin .add .no (.slot 10) (.const (.int .i64 1)))), .mk none (.slot 10) (.mov (.mv (.env 63)))]))))))) (.seq (.reg [.mk none (.env 64) (.mov (.mv (.slot 3))), .mk none (.slot 1) (.mov (.mv (.env 64))), .mk none (.slot 2) (.mov (.mv (.const (.int .i64 0))))]) .ret))))), [.slot (.slot 1), .slot (.slot 2)]⟩
structure EM where
  key : List UInt8
  val : List UInt8
  gone : Bool
abbrev T3 := AV × AV × Bool
def f3 (q : T3) : List AV := [q.1, q.2.1, .bool q.2.2]
theorem f3_len (tri : List T3) : (tri.flatMap f3).length = tri.length * 3 := by
  induction tri with
  | nil => rfl
  | cons q l ih => rw [List.flatMap_cons, List.length_append, ih, List.length_cons, Nat.succ_mul, Nat.add_comm]; rfl
theorem f3_at : ∀ {tri : List T3} {i : Nat} {q : T3} {j : Nat}, tri[i]? = some q → j < 3 → (tri.flatMap f3)[i * 3 + j]? = (f3 q)[j]?
  | [], i, q, j, h, _ => by simp at h
  | p :: l, 0, q, j, h, hj => by
    simp at h; subst h
    rw [List.flatMap_cons, List.getElem?_append_left (by simp [f3]; omega)]
    simp
  | p :: l, i + 1, q, j, h, hj => by
    simp at h
    rw [List.flatMap_cons, List.getElem?_append_right (by simp [f3]; omega)]
    have e : (i + 1) * 3 + j - (f3 p).length = i * 3 + j := by simp [f3]; omega
    rw [e]
    exact f3_at h hj
theorem f3_row : ∀ {tri : List T3} {i : Nat} {q : T3}, tri[i]? = some q → ((tri.flatMap f3).drop (i * 3)).take 3 = f3 q
  | [], i, q, h => by simp at h
  | p :: l, 0, q, h => by
    simp at h; subst h
    rw [List.flatMap_cons, Nat.zero_mul, List.drop_zero]
    exact List.take_left (l₁ := f3 p)
  | p :: l, i + 1, q, h => by
    simp at h
    rw [List.flatMap_cons]
    have e : (i + 1) * 3 = (f3 p).length + i * 3 := by simp [f3]; omega
    rw [e, ← List.drop_drop, List.drop_left]
    exact f3_row h
section
variable {X : Type} {h : Hp X}
theorem RS.at3 {n : Nat} {v : AV} {tri : List T3} (a : RS h 3 v n (tri.flatMap f3)) {i : Nat} {q : T3} (hi : tri[i]? = some q) : ∃ g o, (∀ {hh : Hp X} {e : En} {t : List AV} {x y : Od} {k : IntKind}, x.ev e t = v → y.ev e t = .int k (i : Int) → (Mv.iaddr 3 x y).ev e t hh = some (.ptr g o)) ∧
    (∀ {S : Nat → Prop} {hh : Hp X}, Keep S h hh → (∀ k, blk v k → ¬ S k) → ∀ {e : En} {t : List AV} {x : Od} {j : Nat}, x.ev e t = .ptr g (o + j) → j < 3 → (Mv.ld1 x).ev e t hh = (f3 q)[j]?) ∧
    (∀ {S : Nat → Prop} {hh : Hp X}, Keep S h hh → (∀ k, blk v k → ¬ S k) → ∀ {e : En} {t : List AV} {x : Od}, x.ev e t = .ptr g o → (Mv.ldn 3 x).ev e t hh = some (.agg (f3 q))) := by
  have hlen := a.len
  rw [f3_len] at hlen
  have hil := (List.getElem?_eq_some_iff.1 hi).1
  have hin : i < n := by omega
  cases v <;> first | exact a.elim | skip
  · rename_i z g o m cap
    obtain ⟨rfl, rfl, hg, l, hl, hle, hc⟩ := a
    refine ⟨g, o + i * 3, fun {hh e t x y k} hx hy => ?_, fun {S hh} hk hs {e t x j} hx hj => ?_, fun {S hh} hk hs {e t x} hx => ?_⟩
    · simp only [Mv.ev, hx, hy, nOf]
      rw [show Nat.blt i m = true by rw [Nat.blt_eq]; exact hin]
      rfl
    · simp only [Mv.ev, hx, AV.onPtr]
      rw [rowOf_get (hk.get g hg (hs g rfl)), hl]
      simp only
      have := f3_at hi hj
      rw [hc, List.getElem?_take_of_lt (by omega), List.getElem?_drop] at this
      rw [getN_ge, ← this, Nat.add_assoc]
    · simp only [Mv.ev, hx, AV.onPtr]
      rw [rowOf_get (hk.get g hg (hs g rfl)), hl]
      have := f3_row hi
      rw [hc, List.drop_take, List.take_take, List.drop_drop, Nat.min_eq_left (by omega)] at this
      unfold takeN
      have hb : (o + i * 3 + 3).ble l.length = true := ble_t (by omega)
      simp only [hb, cond_true, this]
  · obtain ⟨rfl, _⟩ := a; omega
  · obtain ⟨rfl, _⟩ := a; omega
structure EntV (h : Hp X) (q : T3) (e : EM) : Prop where
  gone : q.2.2 = e.gone
  key : RS h 1 q.1 e.key.length (e.key.map ub)
  val : RS h 1 q.2.1 e.val.length (e.val.map ub)
theorem EntV.up {h' : Hp X} {q : T3} {e : EM} (a : EntV h q e) (k : Keep NoB h h') : EntV h' q e := ⟨a.gone, a.key.up k, a.val.up k⟩
structure Ents (h : Hp X) (v : AV) (l : List EM) : Prop where
  out : ∃ tri : List T3, RS h 3 v l.length (tri.flatMap f3) ∧ tri.length = l.length ∧ ∀ (i : Nat) q e, tri[i]? = some q → l[i]? = some e → EntV h q e
theorem Ents.up {h' : Hp X} {v : AV} {l : List EM} (a : Ents h v l) (k : Keep NoB h h') : Ents h' v l := by
  obtain ⟨tri, h1, h2, h3⟩ := a.out
  exact ⟨tri, h1.up k, h2, fun i q e q1 q2 => (h3 i q e q1 q2).up k⟩
end
def entB (e : EM) : List UInt8 := (if e.gone then 0 else 1) :: UInt8.ofNat e.key.length :: (e.key ++ (if e.gone then [] else encB e.val.length 2 ++ e.val))
def batB (l : List EM) : List UInt8 := encB l.length 2 ++ l.flatMap entB
def EM.v (e : EM) : List UInt8 := if e.gone then [] else e.val
def okE (e : EM) : Bool := decide (1 ≤ e.key.length) && decide (e.key.length ≤ 255) && decide (e.v.length ≤ 4095)
def mayB (l : List EM) : Bool := decide (l.length ≤ 8191) && l.all okE
theorem entB_len (e : EM) : (entB e).length ≤ 4 + e.key.length + e.v.length := by
  unfold entB EM.v
  cases e.gone <;> simp [encB_len] <;> omega
section
variable {X : Type} {E : Nat → Option (Ent X)}
theorem value_ok (hE : ∀ f e, E f = some e → e.plain) (hf : E 107 = some (.bc b_frValue)) {h : Hp X} {q : T3} {e : EM} (ha : EntV h q e) :
    WF (lim E) 107 [.agg (f3 q)] h fun r h' => Keep NoB h h' ∧ RS h' 1 r e.v.length (e.v.map ub) ∧ ∀ k, blk r k → blk q.2.1 k := by
  obtain ⟨kv, vv, gb⟩ := q
  obtain ⟨hg, hk, hv⟩ := ha
  simp only at hg hk hv
  subst hg
  refine wf_bc hE hf rfl ?_
  simp only [b_frValue, List.map, getS]
  have b1 : Bx (h.push (.rw [kv, vv, .bool e.gone])) h.n _ := bx_push
  have k1 : Keep NoB h (h.push (.rw [kv, vv, .bool e.gone])) := Keep.push _ _ _
  have hall : allOne [kv, vv, .bool e.gone] = true := one_all3 hk.one.2 hv.one.2 rfl
  unfold EM.v
  cases hg : e.gone with
  | true =>
    rw [hg] at b1 k1 hall
    repeat first|(refine BG ?_;first|(refine BH ?_;first|(refine BI ?_;refine BM ?_)|(refine BJ ?_;first|refine BN ?_|refine BO ?_)|refine BV (v_bx b1 rfl rfl) ?_|refine BP ?_)|(refine BK ?_;first|refine BS rfl rfl ?_|refine BT rfl rfl ?_|refine BU rfl ?_)|(refine BL ?_;first|refine BW (ef_box rfl hall) ?_|refine BQ ?_)|(refine BR ?_;try simp only [setS]))|refine AA ?_|refine AC ?_|refine AD ?_|refine AE ?_|refine AF rfl rfl ?_|refine AG rfl rfl ?_|refine AH ?_|refine AI ?_|refine AJ ?_|refine AK ?_|refine AL ?_|refine AM ?_|refine AN ?_|refine AO ?_|refine AP ?_|refine AQ rfl ?_|refine AR ?_|refine AS ?_|refine AT rfl ?_|refine AU rfl ?_
    exact ⟨k1, ⟨rfl, rfl⟩, fun k q => q.elim⟩
  | false =>
    rw [hg] at b1 k1 hall
    repeat first|(refine BG ?_;first|(refine BH ?_;first|(refine BI ?_;refine BM ?_)|(refine BJ ?_;first|refine BN ?_|refine BO ?_)|refine BV (v_bx b1 rfl rfl) ?_|refine BP ?_)|(refine BK ?_;first|refine BS rfl rfl ?_|refine BT rfl rfl ?_|refine BU rfl ?_)|(refine BL ?_;first|refine BW (ef_box rfl hall) ?_|refine BQ ?_)|(refine BR ?_;try simp only [setS]))|refine AA ?_|refine AC ?_|refine AD ?_|refine AE ?_|refine AF rfl rfl ?_|refine AG rfl rfl ?_|refine AH ?_|refine AI ?_|refine AJ ?_|refine AK ?_|refine AL ?_|refine AM ?_|refine AN ?_|refine AO ?_|refine AP ?_|refine AQ rfl ?_|refine AR ?_|refine AS ?_|refine AT rfl ?_|refine AU rfl ?_
    exact ⟨k1, hv.up k1, fun k q => q⟩
theorem lt255 {n : Nat} (h : n ≤ 255) : (UInt8.ofNat n).toNat = n := by rw [UInt8.toNat_ofNat']; omega
theorem flat_takeE {l : List EM} {i : Nat} {e : EM} (hi : l[i]? = some e) : (l.take (i + 1)).flatMap entB = (l.take i).flatMap entB ++ entB e := by
  rw [List.take_add_one, hi, List.flatMap_append]
  simp
theorem all_take {l : List EM} {i : Nat} (hi : i < l.length) {e : EM} (he : l[i]? = some e) (h : okE e = false) : mayB l = false := by
  unfold mayB
  cases hd : decide (l.length ≤ 8191) with
  | false => rfl
  | true =>
    rw [Bool.true_and]
    cases ha : l.all okE with
    | false => rfl
    | true => rw [List.all_eq_true.1 ha e (List.mem_of_getElem? he)] at h; cases h
structure WaB (E : Nat → Option (Ent X)) : Prop where
  value : E 107 = some (.bc b_frValue)
  batch : E 76 = some (.bc b_frBatch)
  put : E 106 = some (.bc b_octPut)
  clone : E 85 = some (.bc b_clone)
def BatPost (h : Hp X) (l : List EM) (r : AV) (h' : Hp X) : Prop := Keep NoB h h' ∧ if mayB l then ∃ o, r = .tup [o, .int .i64 0] ∧ OS h' 1 o (batB l).length ((batB l).map ub) ∧ ∀ k, blk o k → h.n ≤ k else r = .tup [.snil, .int .i64 3]
set_option maxHeartbeats 8000000 in
theorem batch_ok (hE : ∀ f e, E f = some e → e.plain) (T : WaB E) {h : Hp X} {v : AV} {l : List EM} (ha : Ents h v l) (hl : l.length ≤ 1000000) :
    WF (lim E) 76 [v] h fun r h' => BatPost h l r h' := by
  obtain ⟨tri, hr, htl, hq⟩ := ha.out
  refine wf_bc hE T.batch rfl ?_
  simp only [b_frBatch, List.map, getS]
  have hmx : (maxLen : Nat) = 9223372036854775807 := rfl
  by_cases hc : (8191 : Int) < l.length
  · repeat first|(refine BG ?_;first|(refine BH ?_;first|(refine BI ?_;refine BM ?_)|(refine BJ ?_;first|refine BN ?_|refine BO ?_)|refine BV (hr.lenv (by rfl)) ?_|refine BP ?_)|(refine BK ?_;first|refine BS rfl rfl ?_|refine BT rfl rfl ?_|refine BU rfl ?_)|(refine BL ?_;first|refine BQ ?_)|(refine BR ?_;try simp only [setS]))|refine AA ?_|refine AC ?_|refine AD ?_|refine AE ?_|refine AF rfl rfl ?_|refine AG rfl rfl ?_|refine AH ?_|refine AI ?_|refine AJ ?_|refine AK ?_|refine AL ?_|refine AM ?_|refine AN ?_|refine AO ?_|refine AP ?_|refine AQ rfl ?_|refine AR ?_|refine AS ?_|refine AT rfl ?_|refine AU rfl ?_
    refine ⟨Keep.refl _ _, ?_⟩
    rw [if_neg (by unfold mayB; rw [decide_eq_false (by omega)]; simp)]
    rfl
  · repeat first|(refine BG ?_;first|(refine BH ?_;first|(refine BI ?_;refine BM ?_)|(refine BJ ?_;first|refine BN ?_|refine BO ?_)|refine BV (hr.lenv (by rfl)) ?_|refine BV (v_conv_u64 rfl (by omega)) ?_|refine BP ?_)|(refine BK ?_;first|refine BS rfl rfl ?_|refine BT rfl rfl ?_|refine BU rfl ?_)|(refine BL ?_;first|refine BQ ?_)|(refine BR ?_;try simp only [setS]))|refine AA ?_|refine AC ?_|refine AD ?_|refine AE ?_|refine AF rfl rfl ?_|refine AG rfl rfl ?_|refine AH ?_|refine AI ?_|refine AJ ?_|refine AK ?_|refine AL ?_|refine AM ?_|refine AN ?_|refine AO ?_|refine AP ?_|refine AQ rfl ?_|refine AR ?_|refine AS ?_|refine AT rfl ?_|refine AU rfl ?_
    refine wr_call_e rfl ((oput_ok hE T.put T.clone (h := h) (v := .snil) (n := 0) (cells := []) ⟨rfl, rfl⟩ (by intro q; cases q) (by omega) (m := l.length) (size := 2) (k := 2) (by decide)).mono fun r h1 ⟨⟨k1, l1⟩, o1⟩ => ?_)
    rw [encK_map, List.nil_append, Nat.zero_add] at o1
    have hr1 := hr.up k1
    repeat first|(refine BG ?_;first|(refine BH ?_;first|(refine BI ?_;refine BM ?_)|(refine BJ ?_;first|refine BN ?_|refine BO ?_)|refine BV (hr1.lenv (by rfl)) ?_|refine BP ?_)|(refine BK ?_;first|refine BS rfl rfl ?_|refine BT rfl rfl ?_|refine BU rfl ?_)|(refine BL ?_;first|refine BQ ?_)|(refine BR ?_;try simp only [setS]))|refine AA ?_|refine AC ?_|refine AD ?_|refine AE ?_|refine AF rfl rfl ?_|refine AG rfl rfl ?_|refine AH ?_|refine AI ?_|refine AJ ?_|refine AK ?_|refine AL ?_|refine AM ?_|refine AN ?_|refine AO ?_|refine AP ?_|refine AQ rfl ?_|refine AR ?_|refine AS ?_|refine AT rfl ?_|refine AU rfl ?_
    refine wb_loop (fun n t h' => ∃ (i : Nat) (bv s4 s5 s6 s11 s12 s13 s14 : AV), i ≤ l.length ∧ n = l.length - i ∧ Keep NoB h h' ∧ (∀ k, blk bv k → h.n ≤ k) ∧ (∀ e ∈ l.take i, okE e = true) ∧
      OS h' 1 bv (encB l.length 2 ++ (l.take i).flatMap entB).length ((encB l.length 2 ++ (l.take i).flatMap entB).map ub) ∧ (encB l.length 2 ++ (l.take i).flatMap entB).length ≤ 2 + 5000 * i ∧
      t = [v, .snil, .int .i64 0, bv, s4, s5, s6, .bool false, v, .int .i64 l.length, .int .i64 i, s11, s12, s13, s14]) ?_ l.length _ _ ⟨0, r, _, _, _, _, _, _, _, by omega, by omega, k1, l1, by simp, by simpa [encB_len] using o1, by simp [encB_len], rfl⟩
    rintro n t h' ⟨i, bv, s4, s5, s6, s11, s12, s13, s14, hi, hn, K, lo, hok, ob, hbl, rfl⟩
    generalize hpre : encB l.length 2 ++ (l.take i).flatMap entB = pre at *
    by_cases hlt : i < l.length
    · obtain ⟨e, he⟩ : ∃ e, l[i]? = some e := ⟨_, List.getElem?_eq_getElem hlt⟩
      obtain ⟨q, hqi⟩ : ∃ q, tri[i]? = some q := ⟨_, List.getElem?_eq_getElem (by omega)⟩
      have hkl := (hq i q e hqi he).key.lt
      have hvl := (hq i q e hqi he).val.lt
      have hv := (hq i q e hqi he).up K
      obtain ⟨ga, oa, pa, la, na⟩ := hr.at3 hqi
      have na := @na NoB _ K (fun _ _ q => q)
      have kp : Keep NoB h' (h'.push (.rw [.snil, .snil, .bool false])) := Keep.push _ _ _
      have bz : Bx (h'.push (.rw [.snil, .snil, .bool false])) h'.n _ := bx_push
      obtain ⟨kv, vv, gb⟩ := q
      have hgb := hv.gone
      have hkv := hv.key
      simp only at hgb hkv
      subst hgb
      have hall : allOne (f3 (kv, vv, e.gone)) = true := one_all3 hv.key.one.2 hv.val.one.2 rfl
      have kq : Keep (OneB h'.n) (h'.push (.rw [.snil, .snil, .bool false])) ((h'.push (.rw [.snil, .snil, .bool false])).put h'.n (.rw [kv, vv, .bool e.gone])) := Keep.put _ _ _ rfl
      have b4 : Bx ((h'.push (.rw [.snil, .snil, .bool false])).put h'.n (.rw [kv, vv, .bool e.gone])) h'.n [kv, vv, .bool e.gone] := bz.put
      have hv2 : EntV ((h'.push (.rw [.snil, .snil, .bool false])).put h'.n (.rw [kv, vv, .bool e.gone])) (kv, vv, e.gone) e := ⟨rfl, (hv.key.up kp).keep kq (fun k q1 q2 => by have := hv.key.lt k q1; have q2 : k = h'.n := q2; omega), (hv.val.up kp).keep kq (fun k q1 q2 => by have := hv.val.lt k q1; have q2 : k = h'.n := q2; omega)⟩
      have ob2 := (ob.up kp).keep kq (fun k q1 q2 => by have := ob.lt k q1; have q2 : k = h'.n := q2; omega)
      have hKn := K.n
      have K2 := (K.and kp).own kq (fun k q => by have q : k = h'.n := q; omega)
      repeat first|(refine BG ?_;first|(refine BH ?_;first|(refine BI ?_;refine BM ?_)|(refine BJ ?_;first|refine BN ?_|refine BO ?_)|refine BV (pa rfl rfl) ?_|refine BV (na rfl) ?_|refine BV (v_bxn b4 rfl (Nat.le_refl _)) ?_|refine BP ?_)|(refine BK ?_;first|refine BS rfl rfl ?_|refine BT rfl rfl ?_|refine BU rfl ?_)|(refine BL ?_;first|refine BW (ef_bxn bz rfl rfl hall rfl (Nat.le_refl _)) ?_|refine BQ ?_)|(refine BR ?_;try simp only [setS]))|refine AA ?_|refine AC ?_|refine AD ?_|refine AE ?_|refine AF rfl rfl ?_|refine AG rfl rfl ?_|refine AH ?_|refine AI ?_|refine AJ ?_|refine AK ?_|refine AL ?_|refine AM ?_|refine AN ?_|refine AO ?_|refine AP ?_|refine AQ rfl ?_|refine AR ?_|refine AS ?_|refine AT rfl ?_|refine AU rfl ?_
      obtain ⟨h2, hh2⟩ : ∃ h2 : Hp X, h2 = (h'.push (.rw [.snil, .snil, .bool false])).put h'.n (.rw [kv, vv, .bool e.gone]) := ⟨_, rfl⟩
      refine wr_heap (h' := h2) (by rw [hh2]; rfl) ?_
      rw [← hh2] at b4 hv2 ob2 K2
      clear kp kq bz hh2
      refine wr_call_e rfl ((value_ok hE T.value hv2).mono fun xv h3 ⟨k3, r3, bx3⟩ => ?_)
      have b4 := b4.up k3
      have hv3 := hv2.up k3
      have ob3 := ob2.up k3
      have K3 := K2.and k3
      have hk3 := hv3.key
      simp only at hk3
      have hee : okE e = (decide (1 ≤ e.key.length) && decide (e.key.length ≤ 255) && decide (e.v.length ≤ 4095)) := rfl
      have bad : okE e = false → BatPost h l (.tup [.snil, .int .i64 3]) h3 := fun hx => ⟨K3, by rw [if_neg (by rw [all_take hlt he hx]; decide)]⟩
      by_cases c1 : (e.key.length : Int) < 1
      · have hx : okE e = false := by rw [hee, decide_eq_false (by omega)]; simp
        repeat first|(refine BG ?_;first|(refine BH ?_;first|(refine BI ?_;refine BM ?_)|(refine BJ ?_;first|refine BN ?_|refine BO ?_)|refine BV (v_bx b4 rfl rfl) ?_|refine BV (hk3.lenv (by rfl)) ?_|refine BP ?_)|(refine BK ?_;first|refine BS rfl rfl ?_|refine BT rfl rfl ?_|refine BU rfl ?_)|(refine BL ?_;first|refine BQ ?_)|(refine BR ?_;try simp only [setS]))|refine AA ?_|refine AC ?_|refine AD ?_|refine AE ?_|refine AF rfl rfl ?_|refine AG rfl rfl ?_|refine AH ?_|refine AI ?_|refine AJ ?_|refine AK ?_|refine AL ?_|refine AM ?_|refine AN ?_|refine AO ?_|refine AP ?_|refine AQ rfl ?_|refine AR ?_|refine AS ?_|refine AT rfl ?_|refine AU rfl ?_
        exact bad hx
      by_cases c2 : (255 : Int) < e.key.length
      · have hx : okE e = false := by rw [hee, decide_eq_false (p := e.key.length ≤ 255) (by omega)]; simp
        repeat first|(refine BG ?_;first|(refine BH ?_;first|(refine BI ?_;refine BM ?_)|(refine BJ ?_;first|refine BN ?_|refine BO ?_)|refine BV (v_bx b4 rfl rfl) ?_|refine BV (hk3.lenv (by rfl)) ?_|refine BP ?_)|(refine BK ?_;first|refine BS rfl rfl ?_|refine BT rfl rfl ?_|refine BU rfl ?_)|(refine BL ?_;first|refine BQ ?_)|(refine BR ?_;try simp only [setS]))|refine AA ?_|refine AC ?_|refine AD ?_|refine AE ?_|refine AF rfl rfl ?_|refine AG rfl rfl ?_|refine AH ?_|refine AI ?_|refine AJ ?_|refine AK ?_|refine AL ?_|refine AM ?_|refine AN ?_|refine AO ?_|refine AP ?_|refine AQ rfl ?_|refine AR ?_|refine AS ?_|refine AT rfl ?_|refine AU rfl ?_
        exact bad hx
      by_cases c3 : (4095 : Int) < e.v.length
      · have hx : okE e = false := by rw [hee, decide_eq_false (p := e.v.length ≤ 4095) (by omega)]; simp
        repeat first|(refine BG ?_;first|(refine BH ?_;first|(refine BI ?_;refine BM ?_)|(refine BJ ?_;first|refine BN ?_|refine BO ?_)|refine BV (v_bx b4 rfl rfl) ?_|refine BV (hk3.lenv (by rfl)) ?_|refine BV (r3.lenv (by rfl)) ?_|refine BP ?_)|(refine BK ?_;first|refine BS rfl rfl ?_|refine BT rfl rfl ?_|refine BU rfl ?_)|(refine BL ?_;first|refine BQ ?_)|(refine BR ?_;try simp only [setS]))|refine AA ?_|refine AC ?_|refine AD ?_|refine AE ?_|refine AF rfl rfl ?_|refine AG rfl rfl ?_|refine AH ?_|refine AI ?_|refine AJ ?_|refine AK ?_|refine AL ?_|refine AM ?_|refine AN ?_|refine AO ?_|refine AP ?_|refine AQ rfl ?_|refine AR ?_|refine AS ?_|refine AT rfl ?_|refine AU rfl ?_
        exact bad hx
      have hxo : okE e = true := by rw [hee, decide_eq_true (by omega), decide_eq_true (by omega), decide_eq_true (by omega)]; rfl
      have hok' : ∀ x ∈ l.take (i + 1), okE x = true := fun x hx => by
        rw [List.take_add_one, he] at hx
        rcases List.mem_append.1 hx with hx | hx
        · exact hok x hx
        · simp at hx; subst hx; exact hxo
      have hel := entB_len e
      have hft := flat_takeE he
      have hpe : encB l.length 2 ++ (l.take (i + 1)).flatMap entB = pre ++ entB e := by rw [hft, ← hpre, List.append_assoc]
      have hn1 : n - 1 < n := by omega
      cases hg : e.gone with
      | true =>
        rw [hg] at b4
        have hev : entB e = [0, UInt8.ofNat e.key.length] ++ e.key := by unfold entB; rw [hg]; simp
        repeat first|(refine BG ?_;first|(refine BH ?_;first|(refine BI ?_;refine BM ?_)|(refine BJ ?_;first|refine BN ?_|refine BO ?_)|refine BV (v_bx b4 rfl rfl) ?_|refine BV (hk3.lenv (by rfl)) ?_|refine BV (r3.lenv (by rfl)) ?_|refine BV (v_conv_u8 rfl) ?_|refine BP ?_)|(refine BK ?_;first|refine BS rfl rfl ?_|refine BT rfl rfl ?_|refine BU rfl ?_)|(refine BL ?_;first|refine BW (ef_bs2 (a := ub 0) rfl rfl ⟨rfl, rfl⟩ ⟨rfl, rfl⟩) ?_|refine BQ ?_)|(refine BR ?_;try simp only [setS]))|refine AA ?_|refine AC ?_|refine AD ?_|refine AE ?_|refine AF rfl rfl ?_|refine AG rfl rfl ?_|refine AH ?_|refine AI ?_|refine AJ ?_|refine AK ?_|refine AL ?_|refine AM ?_|refine AN ?_|refine AO ?_|refine AP ?_|refine AQ rfl ?_|refine AR ?_|refine AS ?_|refine AT rfl ?_|refine AU rfl ?_
        refine wr_heap (h' := h3.push (.rw ([0, UInt8.ofNat e.key.length].map ub))) rfl ?_
        have kp : Keep NoB h3 (h3.push (.rw ([0, UInt8.ofNat e.key.length].map ub))) := Keep.push _ _ _
        refine wr_app_e rfl rfl (ob3.up kp) Nat.zero_lt_one (rs_push (n := 2) (z := 1) (l := [0, UInt8.ofNat e.key.length].map ub) rfl) (by omega) (by omega) fun b5 h5 a1 a2 a3 => ?_
        have K5 := (K3.and kp).own a2 lo
        have k3n := K3.n
        have lo5 : ∀ k, blk b5 k → h.n ≤ k := fun k q => by
          rcases a3 k q with q | q
          · exact lo k q
          · simp only [push_n] at q; omega
        have b45 := (b4.up kp).keep a2 (fun q => by have := ob.lt _ q; omega)
        have hk5 := (hk3.up kp).keep a2 (fun k q1 q2 => by have := hkl k q1; have := lo k q2; omega)
        repeat first|(refine BG ?_;first|(refine BH ?_;first|(refine BI ?_;refine BM ?_)|(refine BJ ?_;first|refine BN ?_|refine BO ?_)|refine BV (v_bx b45 rfl rfl) ?_|refine BP ?_)|(refine BK ?_;first|refine BS rfl rfl ?_|refine BT rfl rfl ?_|refine BU rfl ?_)|(refine BL ?_;first|refine BQ ?_)|(refine BR ?_;try simp only [setS]))|refine AA ?_|refine AC ?_|refine AD ?_|refine AE ?_|refine AF rfl rfl ?_|refine AG rfl rfl ?_|refine AH ?_|refine AI ?_|refine AJ ?_|refine AK ?_|refine AL ?_|refine AM ?_|refine AN ?_|refine AO ?_|refine AP ?_|refine AQ rfl ?_|refine AR ?_|refine AS ?_|refine AT rfl ?_|refine AU rfl ?_
        refine wr_app_e rfl rfl a1 Nat.zero_lt_one hk5 (by omega) (by omega) fun b6 h6 c1 c2 c3 => ?_
        have K6 := K5.own c2 lo5
        have k5n := K5.n
        have lo6 : ∀ k, blk b6 k → h.n ≤ k := fun k q => by
          rcases c3 k q with q | q
          · exact lo5 k q
          · omega
        have b46 := b45.keep c2 (fun q => by
          rcases a3 _ q with q | q
          · have := ob.lt _ q; omega
          · have := b4.lt; simp only [push_n] at q; omega)
        rw [← List.map_append, ← List.map_append] at c1
        repeat first|(refine BG ?_;first|(refine BH ?_;first|(refine BI ?_;refine BM ?_)|(refine BJ ?_;first|refine BN ?_|refine BO ?_)|refine BV (v_bx b46 rfl rfl) ?_|refine BP ?_)|(refine BK ?_;first|refine BS rfl rfl ?_|refine BT rfl rfl ?_|refine BU rfl ?_)|(refine BL ?_;first|refine BQ ?_)|(refine BR ?_;try simp only [setS]))|refine AA ?_|refine AC ?_|refine AD ?_|refine AE ?_|refine AF rfl rfl ?_|refine AG rfl rfl ?_|refine AH ?_|refine AI ?_|refine AJ ?_|refine AK ?_|refine AL ?_|refine AM ?_|refine AN ?_|refine AO ?_|refine AP ?_|refine AQ rfl ?_|refine AR ?_|refine AS ?_|refine AT rfl ?_|refine AU rfl ?_
        rw [show ((i : Int) + 1) = ((i + 1 : Nat) : Int) by omega]
        refine round_norm (n - 1) hn1 ⟨i + 1, b6, _, _, _, _, _, _, _, by omega, by omega, K6, lo6, hok', ?_, ?_, rfl⟩
        · rw [hpe, hev]
          have e2 : (pre ++ ([0, UInt8.ofNat e.key.length] ++ e.key)).length = pre.length + 2 + e.key.length := by simp; omega
          rw [e2, ← List.append_assoc]
          exact c1
        · rw [hpe, List.length_append]; omega
      | false =>
        rw [hg] at b4
        have hev : entB e = [1, UInt8.ofNat e.key.length] ++ e.key ++ (encB e.v.length 2 ++ e.v) := by unfold entB EM.v; rw [hg]; simp
        repeat first|(refine BG ?_;first|(refine BH ?_;first|(refine BI ?_;refine BM ?_)|(refine BJ ?_;first|refine BN ?_|refine BO ?_)|refine BV (v_bx b4 rfl rfl) ?_|refine BV (hk3.lenv (by rfl)) ?_|refine BV (r3.lenv (by rfl)) ?_|refine BV (v_conv_u8 rfl) ?_|refine BP ?_)|(refine BK ?_;first|refine BS rfl rfl ?_|refine BT rfl rfl ?_|refine BU rfl ?_)|(refine BL ?_;first|refine BW (ef_bs2 (a := ub 1) rfl rfl ⟨rfl, rfl⟩ ⟨rfl, rfl⟩) ?_|refine BQ ?_)|(refine BR ?_;try simp only [setS]))|refine AA ?_|refine AC ?_|refine AD ?_|refine AE ?_|refine AF rfl rfl ?_|refine AG rfl rfl ?_|refine AH ?_|refine AI ?_|refine AJ ?_|refine AK ?_|refine AL ?_|refine AM ?_|refine AN ?_|refine AO ?_|refine AP ?_|refine AQ rfl ?_|refine AR ?_|refine AS ?_|refine AT rfl ?_|refine AU rfl ?_
        refine wr_heap (h' := h3.push (.rw ([1, UInt8.ofNat e.key.length].map ub))) rfl ?_
        have kp : Keep NoB h3 (h3.push (.rw ([1, UInt8.ofNat e.key.length].map ub))) := Keep.push _ _ _
        refine wr_app_e rfl rfl (ob3.up kp) Nat.zero_lt_one (rs_push (n := 2) (z := 1) (l := [1, UInt8.ofNat e.key.length].map ub) rfl) (by omega) (by omega) fun b5 h5 a1 a2 a3 => ?_
        have K5 := (K3.and kp).own a2 lo
        have k3n := K3.n
        have lo5 : ∀ k, blk b5 k → h.n ≤ k := fun k q => by
          rcases a3 k q with q | q
          · exact lo k q
          · simp only [push_n] at q; omega
        have b45 := (b4.up kp).keep a2 (fun q => by have := ob.lt _ q; omega)
        have hk5 := (hk3.up kp).keep a2 (fun k q1 q2 => by have := hkl k q1; have := lo k q2; omega)
        repeat first|(refine BG ?_;first|(refine BH ?_;first|(refine BI ?_;refine BM ?_)|(refine BJ ?_;first|refine BN ?_|refine BO ?_)|refine BV (v_bx b45 rfl rfl) ?_|refine BP ?_)|(refine BK ?_;first|refine BS rfl rfl ?_|refine BT rfl rfl ?_|refine BU rfl ?_)|(refine BL ?_;first|refine BQ ?_)|(refine BR ?_;try simp only [setS]))|refine AA ?_|refine AC ?_|refine AD ?_|refine AE ?_|refine AF rfl rfl ?_|refine AG rfl rfl ?_|refine AH ?_|refine AI ?_|refine AJ ?_|refine AK ?_|refine AL ?_|refine AM ?_|refine AN ?_|refine AO ?_|refine AP ?_|refine AQ rfl ?_|refine AR ?_|refine AS ?_|refine AT rfl ?_|refine AU rfl ?_
        refine wr_app_e rfl rfl a1 Nat.zero_lt_one hk5 (by omega) (by omega) fun b6 h6 c1 c2 c3 => ?_
        have K6 := K5.own c2 lo5
        have k5n := K5.n
        have lo6 : ∀ k, blk b6 k → h.n ≤ k := fun k q => by
          rcases c3 k q with q | q
          · exact lo5 k q
          · omega
        have b46 := b45.keep c2 (fun q => by
          rcases a3 _ q with q | q
          · have := ob.lt _ q; omega
          · have := b4.lt; simp only [push_n] at q; omega)
        rw [← List.map_append, ← List.map_append] at c1
        have r6 : RS h6 1 xv e.v.length (e.v.map ub) := ((r3.up kp).keep a2 (fun k q1 q2 => by have := hvl k (bx3 k q1); have := lo k q2; omega)).keep c2 (fun k q1 q2 => by have := hvl k (bx3 k q1); have := lo5 k q2; omega)
        repeat first|(refine BG ?_;first|(refine BH ?_;first|(refine BI ?_;refine BM ?_)|(refine BJ ?_;first|refine BN ?_|refine BO ?_)|refine BV (v_bx b46 rfl rfl) ?_|refine BV (r6.lenv (by rfl)) ?_|refine BV (v_conv_u64 rfl (by omega)) ?_|refine BP ?_)|(refine BK ?_;first|refine BS rfl rfl ?_|refine BT rfl rfl ?_|refine BU rfl ?_)|(refine BL ?_;first|refine BQ ?_)|(refine BR ?_;try simp only [setS]))|refine AA ?_|refine AC ?_|refine AD ?_|refine AE ?_|refine AF rfl rfl ?_|refine AG rfl rfl ?_|refine AH ?_|refine AI ?_|refine AJ ?_|refine AK ?_|refine AL ?_|refine AM ?_|refine AN ?_|refine AO ?_|refine AP ?_|refine AQ rfl ?_|refine AR ?_|refine AS ?_|refine AT rfl ?_|refine AU rfl ?_
        refine wr_call_e rfl ((oput_ok hE T.put T.clone c1.rs c1.nsemp (by omega) (m := e.v.length) (size := 2) (k := 2) (by decide)).mono fun b7 h7 ⟨⟨k7, l7⟩, o7⟩ => ?_)
        repeat first|(refine BG ?_;first|(refine BH ?_;first|(refine BI ?_;refine BM ?_)|(refine BJ ?_;first|refine BN ?_|refine BO ?_)|refine BP ?_)|(refine BK ?_;first|refine BS rfl rfl ?_|refine BT rfl rfl ?_|refine BU rfl ?_)|(refine BL ?_;first|refine BQ ?_)|(refine BR ?_;try simp only [setS]))|refine AA ?_|refine AC ?_|refine AD ?_|refine AE ?_|refine AF rfl rfl ?_|refine AG rfl rfl ?_|refine AH ?_|refine AI ?_|refine AJ ?_|refine AK ?_|refine AL ?_|refine AM ?_|refine AN ?_|refine AO ?_|refine AP ?_|refine AQ rfl ?_|refine AR ?_|refine AS ?_|refine AT rfl ?_|refine AU rfl ?_
        refine wr_app_e rfl rfl o7 Nat.zero_lt_one (r6.up k7) (by omega) (by omega) fun b8 h8 d1 d2 d3 => ?_
        repeat first|(refine BG ?_;first|(refine BH ?_;first|(refine BI ?_;refine BM ?_)|(refine BJ ?_;first|refine BN ?_|refine BO ?_)|refine BP ?_)|(refine BK ?_;first|refine BS rfl rfl ?_|refine BT rfl rfl ?_|refine BU rfl ?_)|(refine BL ?_;first|refine BQ ?_)|(refine BR ?_;try simp only [setS]))|refine AA ?_|refine AC ?_|refine AD ?_|refine AE ?_|refine AF rfl rfl ?_|refine AG rfl rfl ?_|refine AH ?_|refine AI ?_|refine AJ ?_|refine AK ?_|refine AL ?_|refine AM ?_|refine AN ?_|refine AO ?_|refine AP ?_|refine AQ rfl ?_|refine AR ?_|refine AS ?_|refine AT rfl ?_|refine AU rfl ?_
        rw [show ((i : Int) + 1) = ((i + 1 : Nat) : Int) by omega]
        have k6n := K6.n
        have k7n := k7.n
        refine round_norm (n - 1) hn1 ⟨i + 1, b8, _, _, _, _, _, _, _, by omega, by omega, (K6.and k7).own d2 (fun k q => by have := l7 k q; omega), fun k q => ?_, hok', ?_, ?_, rfl⟩
        · rcases d3 k q with q | q
          · have := l7 k q; omega
          · omega
        · rw [hpe, hev]
          rw [encK_map, ← List.map_append, ← List.map_append] at d1
          have e2 : (pre ++ ([1, UInt8.ofNat e.key.length] ++ e.key ++ (encB e.v.length 2 ++ e.v))).length = pre.length + 2 + e.key.length + 2 + e.v.length := by simp [encB_len]; omega
          rw [e2]
          have e3 : pre ++ ([1, UInt8.ofNat e.key.length] ++ e.key ++ (encB e.v.length 2 ++ e.v)) = pre ++ [1, UInt8.ofNat e.key.length] ++ e.key ++ encB e.v.length 2 ++ e.v := by simp [List.append_assoc]
          rw [e3]
          exact d1
        · rw [hpe, List.length_append]; omega
    · have hie : i = l.length := by omega
      subst hie
      repeat first|(refine BG ?_;first|(refine BH ?_;first|(refine BI ?_;refine BM ?_)|(refine BJ ?_;first|refine BN ?_|refine BO ?_)|refine BP ?_)|(refine BK ?_;first|refine BS rfl rfl ?_|refine BT rfl rfl ?_|refine BU rfl ?_)|(refine BL ?_;first|refine BQ ?_)|(refine BR ?_;try simp only [setS]))|refine AA ?_|refine AC ?_|refine AD ?_|refine AE ?_|refine AF rfl rfl ?_|refine AG rfl rfl ?_|refine AH ?_|refine AI ?_|refine AJ ?_|refine AK ?_|refine AL ?_|refine AM ?_|refine AN ?_|refine AO ?_|refine AP ?_|refine AQ rfl ?_|refine AR ?_|refine AS ?_|refine AT rfl ?_|refine AU rfl ?_
      refine ⟨K, ?_⟩
      rw [List.take_length] at hok hpre
      have hm : mayB l = true := by
        unfold mayB
        rw [decide_eq_true (by omega), Bool.true_and]
        exact List.all_eq_true.2 hok
      rw [if_pos hm]
      refine ⟨bv, rfl, ?_, lo⟩
      unfold batB
      rw [hpre]
      exact ob
end
end Am
end Go.Proofs.Ythgcdoahoechhaa
namespace Go.Proofs.Ythgcdoahoechhaa
namespace Am
open Go.RowKit
set_option maxRecDepth 100000
def b_ref4Batch : BF := ⟨52, [0, 2, 3, 4, 5, 13, 21], (.seq (.reg [.mk none (.slot 1) (.mov (.mv (.const .snil)))]) (.seq (.reg [.mk none (.env 6) (.mov (.mv (.slot 0))), .mk none (.env 7) (.mov (.lenv (.env 6))), .mk none (.env 8) (.mov (.conv .u64 (.env 7))), .mk none (.env 9) (.call 86 [(.const .snil), (.env 8), (.const (.int .i64 2))]), .mk none (.slot 2) (.mov (.mv (.env 9)))]) (.seq (.seq (.reg [.mk none (.slot 3) (.mov (.mv (.const (.int .i64 0))))]) (.block 0 (.loop (.seq (.seq (.reg [.mk none (.env 10) (.mov (.mv (.slot 3))), .mk none (.env 11) (.mov (.mv (.slot 0))), .mk none (.env 12) (.mov (.lenv (.env 11))), .mk none (.slot 5) (.mov (.bin .lss .no (.env 10) (.env 12)))]) (.cond (.slot 5) .skip (.exit 0))) (.seq (.block 1 (.seq (.reg [.mk none (.env 16) (.mov (.mv (.slot 0))), .mk none (.env 17) (.mov (.mv (.slot 3))), .mk none (.env 18) (.mov (.iaddr 3 (.env 16) (.env 17))), .mk none (.env 19) (.mov (.ldn 3 (.env 18))), .mk none (.slot 4) (.eff (.alloc [.snil, .snil, (.bool false)])), .mk none .none (.eff (.store 3 (.slot 4) (.env 19)))]) (.seq (.seq (.reg [.mk none (.env 20) (.mov (.faddr 2 (.slot 4))), .mk none (.slot 6) (.mov (.ld1 (.env 20)))]) (.cond (.slot 6) (.seq (.dreg [(.mk none (.env 22) (.mov (.mv (.slot 2))), []), (.mk none (.env 23) (.mov (.faddr 0 (.slot 4))), []), (.mk none (.env 24) (.mov (.ld1 (.env 23))), []), (.mk none (.env 25) (.mov (.lenv (.env 24))), []), (.mk none (.env 26) (.mov (.conv .u8 (.env 25))), []), (.mk none (.env 29) (.mov (.faddr 0 (.slot 4))), []), (.mk none (.env 30) (.mov (.ld1 (.env 29))), []), (.mk none (.env 27) (.eff (.bslice 1 2 [(.int .u8 0)] [(0, 1, (.const (.int .u8 0))), (1, 1, (.env 26))])), [0, 1, 2, 3, 4, 5, 6]), (.mk none (.env 28) (.eff (.append 1 1 (.env 22) (.env 27))), [5, 6]), (.mk none (.env 31) (.eff (.append 1 1 (.env 28) (.env 30))), []), (.mk none (.slot 2) (.mov (.mv (.env 31))), [])]) (.exit 1)) .skip)) (.seq (.dreg [(.mk none (.env 32) (.mov (.mv (.slot 2))), []), (.mk none (.env 33) (.mov (.faddr 0 (.slot 4))), []), (.mk none (.env 34) (.mov (.ld1 (.env 33))), []), (.mk none (.env 35) (.mov (.lenv (.env 34))), []), (.mk none (.env 36) (.mov (.conv .u8 (.env 35))), []), (.mk none (.env 39) (.mov (.faddr 0 (.slot 4))), []), (.mk none (.env 40) (.mov (.ld1 (.env 39))), []), (.mk none (.env 37) (.eff (.bslice 1 2 [(.int .u8 0)] [(0, 1, (.const (.int .u8 1))), (1, 1, (.env 36))])), [0, 1, 2, 3, 4, 5, 6]), (.mk none (.env 38) (.eff (.append 1 1 (.env 32) (.env 37))), [5, 6]), (.mk none (.env 41) (.eff (.append 1 1 (.env 38) (.env 40))), []), (.mk none (.slot 2) (.mov (.mv (.env 41))), [])]) (.dreg [(.mk none (.env 42) (.mov (.mv (.slot 2))), []), (.mk none (.env 43) (.mov (.faddr 1 (.slot 4))), []), (.mk none (.env 44) (.mov (.ld1 (.env 43))), []), (.mk none (.env 45) (.mov (.lenv (.env 44))), []), (.mk none (.env 46) (.mov (.conv .u64 (.env 45))), []), (.mk none (.env 48) (.mov (.faddr 1 (.slot 4))), []), (.mk none (.env 49) (.mov (.ld1 (.env 48))), []), (.mk none (.env 47) (.call 86 [(.env 42), (.env 46), (.const (.int .i64 2))]), [5, 6]), (.mk none (.env 50) (.eff (.append 1 1 (.env 47) (.env 49))), []), (.mk none (.slot 2) (.mov (.mv (.env 50))), [])]))))) (.reg [.mk none (.env 14) (.mov (.mv (.slot 3))), .mk none (.env 15) (.mov (.bin .add .no (.env 14) (.const (.int .i64 1)))), .mk none (.slot 3) (.mov (.mv (.env 15)))])))))) (.seq (.reg [.mk none (.env 51) (.mov (.mv (.slot 2))), .mk none (.slot 1) (.mov (.mv (.env 51)))]) .ret)))), [.slot (.slot 1)]⟩
def b_ref4Some : BF := ⟨43, [0, 1, 4, 5, 18], (.seq (.reg [.mk none (.slot 2) (.mov (.mv (.const .snil)))]) (.seq (.seq (.reg [.mk none (.env 6) (.mov (.mv (.slot 0))), .mk none (.env 7) (.mov (.nilc (.env 6))), .mk none (.env 8) (.mov (.faddr 1 (.env 7))), .mk none (.env 9) (.mov (.ld1 (.env 8))), .mk none (.env 10) (.mov (.mv (.env 9))), .mk (some ((.env 10), false)) (.env 11) (.mov (.mv (.slot 0))), .mk (some ((.env 10), false)) (.env 12) (.mov (.nilc (.env 11))), .mk (some ((.env 10), false)) (.env 13) (.mov (.faddr 0 (.env 12))), .mk (some ((.env 10), false)) (.env 14) (.mov (.ld1 (.env 13))), .mk (some ((.env 10), false)) (.env 15) (.mov (.lenv (.env 14))), .mk (some ((.env 10), false)) (.env 16) (.mov (.mv (.slot 1))), .mk (some ((.env 10), false)) (.env 17) (.mov (.bin .lss .no (.env 15) (.env 16))), .mk none (.slot 4) (.mov (.pick (.env 10) (.const (.bool true)) (.env 17)))]) (.cond (.slot 4) (.seq (.reg [.mk none (.env 19) (.mov (.mv (.slot 0))), .mk none (.env 20) (.mov (.mv (.slot 0))), .mk none (.env 21) (.mov (.nilc (.env 19))), .mk none (.env 22) (.mov (.faddr 1 (.env 21))), .mk none .none (.eff (.store 1 (.env 22) (.const (.bool true)))), .mk none (.env 23) (.mov (.nilc (.env 20))), .mk none (.env 24) (.mov (.faddr 0 (.env 23))), .mk none .none (.eff (.store 1 (.env 24) (.const .snil)))]) (.seq (.reg [.mk none (.slot 2) (.mov (.mv (.const .snil)))]) .ret)) .skip)) (.seq (.reg [.mk none (.env 25) (.eff (.bslice 1 0 [(.int .u8 0)] [])), .mk none (.env 26) (.mov (.mv (.slot 0))), .mk none (.env 27) (.mov (.nilc (.env 26))), .mk none (.env 28) (.mov (.faddr 0 (.env 27))), .mk none (.env 29) (.mov (.ld1 (.env 28))), .mk none (.env 30) (.mov (.mv (.slot 1))), .mk none (.env 31) (.mov (.sl 1 (.env 29) none (some (.env 30)) none)), .mk none (.env 32) (.eff (.append 1 1 (.env 25) (.env 31))), .mk none (.slot 3) (.mov (.mv (.env 32)))]) (.seq (.reg [.mk none (.env 33) (.mov (.mv (.slot 0))), .mk none (.env 34) (.mov (.mv (.slot 0))), .mk none (.env 35) (.mov (.nilc (.env 34))), .mk none (.env 36) (.mov (.faddr 0 (.env 35))), .mk none (.env 37) (.mov (.ld1 (.env 36))), .mk none (.env 38) (.mov (.mv (.slot 1))), .mk none (.env 39) (.mov (.sl 1 (.env 37) (some (.env 38)) none none)), .mk none (.env 40) (.mov (.nilc (.env 33))), .mk none (.env 41) (.mov (.faddr 0 (.env 40))), .mk none .none (.eff (.store 1 (.env 41) (.env 39)))]) (.seq (.reg [.mk none (.env 42) (.mov (.mv (.slot 3))), .mk none (.slot 2) (.mov (.mv (.env 42)))]) .ret))))), [.slot (.slot 2)]⟩
section
variable {X : Type} {D : Dp X} {l : Dr} {past : List (Pa X)} {e e' : En} {t t' : List AV} {h : Hp X} {Q : R X → Prop} {chk : List Nat}
theorem wd_alc {d : Ds} {m : Ef} {v : AV} {cs : List AV} (hm : m.ev e t h = some (v, h.push (.rw cs))) (hc : Chk (h.push (.rw cs)) past chk) (H : WD D l (past ++ [.alc h.n cs]) e' t' (h.push (.rw cs)) Q) (hi : m.isAlc = true := by rfl) (he : putE d v e = e' := by conv => lhs; whnf) (ht : putT d v t = t' := by conv => lhs; whnf) : WD D ((.mk none d (.eff m), chk) :: l) past e t h Q := by
  subst he ht
  obtain ⟨t', h', h1, h2⟩ := H.out
  refine ⟨⟨t', h', ?_, h2⟩⟩
  have ha := alc_ev hi (e := e) (t := t) (h := h)
  rw [hm] at ha
  obtain ⟨p, hp, hq⟩ : ∃ p, m.alc e t = some p ∧ p.2 = cs := by
    cases hx : m.alc e t with
    | none => rw [hx] at ha; cases ha
    | some p =>
      rw [hx] at ha
      simp only [Option.map_some, Option.some.injEq, Prod.mk.injEq] at ha
      refine ⟨p, rfl, ?_⟩
      have := congrArg (fun h : Hp X => h.get h.n) ha.2
      have h3 := Hp.push_self h (.rw cs)
      have h4 := Hp.push_self h (.rw p.2)
      rw [ha.2] at h3
      rw [h4] at h3
      simpa using h3
  have hpa : paOf (.eff m) e t h v (h.push (.rw cs)) = some (.alc h.n cs) := by
    show (bif m.isAlc then (match (h.push (.rw cs)).get h.n, m.alc e t with | some (.rw l), some (_, l') => bif eqAs l l' then some (Pa.alc h.n l) else none | _, _ => none) else some .skip) = _
    rw [hi, Hp.push_self, hp]
    obtain ⟨p1, p2⟩ := p
    simp only at hq
    subst hq
    simp [eqAs_refl]
  have ho : (Op1.eff m).run D e t h = .ret v (h.push (.rw cs)) := by simp only [Op1.run, hm]
  simp only [drGo, gdv, St1.g, St1.o, St1.d, ho, hpa, hc.out, cond_true]
  exact h1
theorem wd_ef {d : Ds} {m : Ef} {v : AV} {h' : Hp X} (hm : m.ev e t h = some (v, h')) (hc : Chk h' past chk) (H : WD D l (past ++ [.skip]) e' t' h' Q) (hi : m.isAlc = false := by rfl) (he : putE d v e = e' := by conv => lhs; whnf) (ht : putT d v t = t' := by conv => lhs; whnf) : WD D ((.mk none d (.eff m), chk) :: l) past e t h Q := by
  subst he ht
  obtain ⟨t', h'', h1, h2⟩ := H.out
  refine ⟨⟨t', h'', ?_, h2⟩⟩
  have hpa : paOf (.eff m) e t h v h' = some .skip := by
    show (bif m.isAlc then (match h'.get h.n, m.alc e t with | some (.rw l), some (_, l') => bif eqAs l l' then some (Pa.alc h.n l) else none | _, _ => none) else some Pa.skip) = some Pa.skip
    rw [hi]
    rfl
  have ho : (Op1.eff m).run D e t h = .ret v h' := by simp only [Op1.run, hm]
  simp only [drGo, gdv, St1.g, St1.o, St1.d, ho, hpa, hc.out, cond_true]
  exact h1
theorem wd_app {k z by' : Nat} {x y : Od} {v w : AV} {n m : Nat} {cells vs : List AV} (hx : x.ev e t = v) (hy : y.ev e t = w) (ho : OS h z v n cells) (hz : 0 < z) (hw : RS h z w m vs) (h1 : (n + m) * by' ≤ 140737488355328) (h2 : n + m ≤ maxLen)
    (H : ∀ v' h', OS h' z v' (n + m) (cells ++ vs) → Keep (blk v) h h' → (∀ g, blk v' g → blk v g ∨ h.n ≤ g) → Chk h' past chk ∧ WD D l (past ++ [.skip]) ((k, v') :: e) t h' Q) : WD D ((.mk none (.env k) (.eff (.append z by' x y)), chk) :: l) past e t h Q := by
  obtain ⟨v', h', e1, e2, e3, e4⟩ := ho.app hz hw.len h1 h2
  obtain ⟨q1, q2⟩ := H v' h' e2 e3 e4
  exact wd_ef (by simp only [Ef.ev, hy, hw.elems, hx, e1]) q1 q2 rfl rfl rfl
end
section
variable {X : Type} {E : Nat → Option (Ent X)}
def someF (bs : List UInt8) (bad : Bool) (n : Nat) : List UInt8 × List UInt8 × Bool := if bad = true ∨ bs.length < n then ([], [], true) else (bs.take n, bs.drop n, false)
theorem some_ok (hE : ∀ f e, E f = some e → e.plain) (hf : E 108 = some (.bc b_ref4Some)) {h : Hp X} {g m n : Nat} {bs : List UInt8} {bad : Bool} (hr : RdB h g m bs bad) (hb : bs.length ≤ 1099511627776) (hn : n ≤ 1000000) :
    WF (lim E) 108 [.ptr g 0, .int .i64 n] h fun r h' => RS h' 1 r (someF bs bad n).1.length ((someF bs bad n).1.map ub) ∧ (∀ k, blk r k → h.n ≤ k) ∧ RdB h' g m (someF bs bad n).2.1 (someF bs bad n).2.2 ∧ Keep (OneB g) h h' := by
  obtain ⟨bv, h1, h2, h3⟩ := hr.ok
  have hmg := hr.mg
  refine wf_bc hE hf rfl ?_
  simp only [b_ref4Some, List.map, getS]
  have hmx : (maxLen : Nat) = 9223372036854775807 := rfl
  have hg := h1.lt
  have fail : ∀ {hh : Hp X}, Bx hh g [bv, .bool bad] → True := fun _ => trivial
  by_cases hc : bad = true ∨ bs.length < n
  · have e0 : someF bs bad n = ([], [], true) := by unfold someF; rw [if_pos hc]
    rw [e0]
    have b5 : Bx (h.put g (.rw [bv, .bool true])) g [bv, .bool true] := h1.put
    have k1 : Keep (OneB g) h (h.put g (.rw [bv, .bool true])) := Keep.put _ _ _ rfl
    have k2 : Keep (OneB g) (h.put g (.rw [bv, .bool true])) ((h.put g (.rw [bv, .bool true])).put g (.rw [.snil, .bool true])) := Keep.put _ _ _ rfl
    have fin : RdB ((h.put g (.rw [bv, .bool true])).put g (.rw [.snil, .bool true])) g m [] true := ⟨hmg, .snil, b5.put, ⟨rfl, rfl⟩, fun k q => q.elim⟩
    cases bad with
    | true =>
      repeat first|(refine BG ?_;first|(refine BH ?_;first|(refine BI ?_;refine BM ?_)|(refine BJ ?_;first|refine BN ?_|refine BO ?_)|refine BV (v_nilc rfl) ?_|refine BV (v_bx h1 rfl rfl) ?_|refine BP ?_)|(refine BK ?_;first|refine BS rfl rfl ?_|refine BT rfl rfl ?_|refine BU rfl ?_)|(refine BL ?_;first|refine BW (ef_bx h1 rfl rfl ⟨rfl, rfl⟩ (Nat.lt_succ_self 1)) ?_|refine BW (ef_bx b5 rfl rfl ⟨rfl, rfl⟩ (Nat.zero_lt_succ _)) ?_|refine BQ ?_)|(refine BR ?_;try simp only [setS]))|refine AA ?_|refine AC ?_|refine AD ?_|refine AE ?_|refine AF rfl rfl ?_|refine AG rfl rfl ?_|refine AH ?_|refine AI ?_|refine AJ ?_|refine AK ?_|refine AL ?_|refine AM ?_|refine AN ?_|refine AO ?_|refine AP ?_|refine AQ rfl ?_|refine AR ?_|refine AS ?_|refine AT rfl ?_|refine AU rfl ?_
      exact ⟨⟨rfl, rfl⟩, fun k q => q.elim, fin, k1.trans k2 (fun _ _ q => q)⟩
    | false =>
      have hlt : (bs.length : Int) < n := by rcases hc with q | q; cases q; omega
      repeat first|(refine BG ?_;first|(refine BH ?_;first|(refine BI ?_;refine BM ?_)|(refine BJ ?_;first|refine BN ?_|refine BO ?_)|refine BV (v_nilc rfl) ?_|refine BV (v_bx h1 rfl rfl) ?_|refine BV (h2.lenv (by rfl)) ?_|refine BP ?_)|(refine BK ?_;first|refine BS rfl rfl ?_|refine BT rfl rfl ?_|refine BU rfl ?_)|(refine BL ?_;first|refine BW (ef_bx h1 rfl rfl ⟨rfl, rfl⟩ (Nat.lt_succ_self 1)) ?_|refine BW (ef_bx b5 rfl rfl ⟨rfl, rfl⟩ (Nat.zero_lt_succ _)) ?_|refine BQ ?_)|(refine BR ?_;try simp only [setS]))|refine AA ?_|refine AC ?_|refine AD ?_|refine AE ?_|refine AF rfl rfl ?_|refine AG rfl rfl ?_|refine AH ?_|refine AI ?_|refine AJ ?_|refine AK ?_|refine AL ?_|refine AM ?_|refine AN ?_|refine AO ?_|refine AP ?_|refine AQ rfl ?_|refine AR ?_|refine AS ?_|refine AT rfl ?_|refine AU rfl ?_
      exact ⟨⟨rfl, rfl⟩, fun k q => q.elim, fin, k1.trans k2 (fun _ _ q => q)⟩
  · have hbf : bad = false := by cases bad with | false => rfl | true => exact absurd (.inl rfl) hc
    subst hbf
    have hle : n ≤ bs.length := Decidable.byContradiction fun q => hc (.inr (by omega))
    have e0 : someF bs false n = (bs.take n, bs.drop n, false) := by unfold someF; rw [if_neg hc]
    rw [e0]
    obtain ⟨v1, p1, p2, p3, p4⟩ := h2.bytes (lo := 0) (hi := n) (Nat.zero_le _) hle
    rw [List.drop_zero, Nat.sub_zero] at p1
    obtain ⟨v2, s1, s2, s3, s4⟩ := h2.bytes (lo := n) (hi := bs.length) hle (Nat.le_refl _)
    rw [List.take_of_length_le (by rw [List.length_drop]; exact Nat.le_refl _)] at s1
    have hlt : ¬ (bs.length : Int) < n := by omega
    have kp : Keep NoB h (h.push (.rw [])) := Keep.push _ _ _
    have b1 := h1.up kp
    have htl : (bs.take n).length = n := by rw [List.length_take]; omega
    repeat first|(refine BG ?_;first|(refine BH ?_;first|(refine BI ?_;refine BM ?_)|(refine BJ ?_;first|refine BN ?_|refine BO ?_)|refine BV (v_nilc rfl) ?_|refine BV (v_bx h1 rfl rfl) ?_|refine BV (v_bx b1 rfl rfl) ?_|refine BV (h2.lenv (by rfl)) ?_|refine BV (p4 (by rfl) (.inl ⟨rfl, rfl⟩) (.inr ⟨_, _, rfl, rfl⟩)) ?_|refine BP ?_)|(refine BK ?_;first|refine BS rfl rfl ?_|refine BT rfl rfl ?_|refine BU rfl ?_)|(refine BL ?_;first|refine BW ef_bs0 ?_|refine BQ ?_)|(refine BR ?_;try simp only [setS]))|refine AA ?_|refine AC ?_|refine AD ?_|refine AE ?_|refine AF rfl rfl ?_|refine AG rfl rfl ?_|refine AH ?_|refine AI ?_|refine AJ ?_|refine AK ?_|refine AL ?_|refine AM ?_|refine AN ?_|refine AO ?_|refine AP ?_|refine AQ rfl ?_|refine AR ?_|refine AS ?_|refine AT rfl ?_|refine AU rfl ?_
    refine wr_app_e (n := 0) (cells := []) rfl rfl (os_push0 Nat.zero_lt_one) Nat.zero_lt_one (p1.up kp) (by omega) (by omega) fun o h4 a1 a2 a3 => ?_
    rw [Nat.zero_add, List.nil_append] at a1
    have k4 : Keep NoB h h4 := kp.own a2 (fun j q => by have q : j = h.n := q; omega)
    have b4 := h1.up k4
    have lo : ∀ k, blk o k → h.n ≤ k := fun k q => by
      rcases a3 k q with q | q
      · have q : k = h.n := q; omega
      · simp only [push_n] at q; omega
    repeat first|(refine BG ?_;first|(refine BH ?_;first|(refine BI ?_;refine BM ?_)|(refine BJ ?_;first|refine BN ?_|refine BO ?_)|refine BV (v_nilc rfl) ?_|refine BV (v_bx b4 rfl rfl) ?_|refine BV (s4 (by rfl) (.inr ⟨_, _, rfl, rfl⟩) (.inl ⟨rfl, rfl⟩)) ?_|refine BP ?_)|(refine BK ?_;first|refine BS rfl rfl ?_|refine BT rfl rfl ?_|refine BU rfl ?_)|(refine BL ?_;first|refine BW (ef_bx b4 rfl rfl s1.one (Nat.zero_lt_succ _)) ?_|refine BQ ?_)|(refine BR ?_;try simp only [setS]))|refine AA ?_|refine AC ?_|refine AD ?_|refine AE ?_|refine AF rfl rfl ?_|refine AG rfl rfl ?_|refine AH ?_|refine AI ?_|refine AJ ?_|refine AK ?_|refine AL ?_|refine AM ?_|refine AN ?_|refine AO ?_|refine AP ?_|refine AQ rfl ?_|refine AR ?_|refine AS ?_|refine AT rfl ?_|refine AU rfl ?_
    have k5 : Keep (OneB g) h4 (h4.put g (.rw (spl 0 [v2] [bv, .bool false]))) := Keep.put _ _ _ rfl
    refine ⟨a1.rs.keep k5 (fun k q1 q2 => by have := lo k q1; have q2 : k = g := q2; omega), lo, ⟨hmg, v2, b4.put, (s1.up k4).keep k5 (fun k q1 q2 => by have := h3 k (s2 k q1); have q2 : k = g := q2; omega), fun k q => h3 k (s2 k q)⟩, k4.any.trans k5 (fun _ _ q => q)⟩
structure WaR (E : Nat → Option (Ent X)) : Prop where
  r4batch : E 81 = some (.bc b_ref4Batch)
  rput : E 86 = some (.bc b_ref2Put)
set_option maxHeartbeats 8000000 in
theorem rbatch_ok (hE : ∀ f e, E f = some e → e.plain) (T : WaR E) {h : Hp X} {v : AV} {l : List EM} (ha : Ents h v l) (hm : mayB l = true) :
    WF (lim E) 81 [v] h fun r h' => Own1 h h' r ∧ OS h' 1 r (batB l).length ((batB l).map ub) := by
  obtain ⟨tri, hr, htl, hq⟩ := ha.out
  have hm2 : l.length ≤ 8191 ∧ ∀ e ∈ l, okE e = true := by
    unfold mayB at hm
    rw [Bool.and_eq_true] at hm
    exact ⟨of_decide_eq_true hm.1, List.all_eq_true.1 hm.2⟩
  obtain ⟨hl, hok⟩ := hm2
  refine wf_bc hE T.r4batch rfl ?_
  simp only [b_ref4Batch, List.map, getS]
  have hmx : (maxLen : Nat) = 9223372036854775807 := rfl
  repeat first|(refine BG ?_;first|(refine BH ?_;first|(refine BI ?_;refine BM ?_)|(refine BJ ?_;first|refine BN ?_|refine BO ?_)|refine BV (hr.lenv (by rfl)) ?_|refine BV (v_conv_u64 rfl (by omega)) ?_|refine BP ?_)|(refine BK ?_;first|refine BS rfl rfl ?_|refine BT rfl rfl ?_|refine BU rfl ?_)|(refine BL ?_;first|refine BQ ?_)|(refine BR ?_;try simp only [setS]))|refine AA ?_|refine AC ?_|refine AD ?_|refine AE ?_|refine AF rfl rfl ?_|refine AG rfl rfl ?_|refine AH ?_|refine AI ?_|refine AJ ?_|refine AK ?_|refine AL ?_|refine AM ?_|refine AN ?_|refine AO ?_|refine AP ?_|refine AQ rfl ?_|refine AR ?_|refine AS ?_|refine AT rfl ?_|refine AU rfl ?_
  refine wr_call_e rfl ((rput_ok hE T.rput (h := h) (v := .snil) (n := 0) (cells := []) ⟨rfl, rfl⟩ (by omega) (m := l.length) (size := 2) (k := 2) (by decide)).mono fun r h1 ⟨⟨k1, l1⟩, o1⟩ => ?_)
  rw [encK_map, List.nil_append, Nat.zero_add] at o1
  repeat first|(refine BG ?_;first|(refine BH ?_;first|(refine BI ?_;refine BM ?_)|(refine BJ ?_;first|refine BN ?_|refine BO ?_)|refine BP ?_)|(refine BK ?_;first|refine BS rfl rfl ?_|refine BT rfl rfl ?_|refine BU rfl ?_)|(refine BL ?_;first|refine BQ ?_)|(refine BR ?_;try simp only [setS]))|refine AA ?_|refine AC ?_|refine AD ?_|refine AE ?_|refine AF rfl rfl ?_|refine AG rfl rfl ?_|refine AH ?_|refine AI ?_|refine AJ ?_|refine AK ?_|refine AL ?_|refine AM ?_|refine AN ?_|refine AO ?_|refine AP ?_|refine AQ rfl ?_|refine AR ?_|refine AS ?_|refine AT rfl ?_|refine AU rfl ?_
  refine wb_loop (fun n t h' => ∃ (i : Nat) (bv s4 s5 s6 : AV), i ≤ l.length ∧ n = l.length - i ∧ Keep NoB h h' ∧ (∀ k, blk bv k → h.n ≤ k) ∧
    OS h' 1 bv (encB l.length 2 ++ (l.take i).flatMap entB).length ((encB l.length 2 ++ (l.take i).flatMap entB).map ub) ∧ (encB l.length 2 ++ (l.take i).flatMap entB).length ≤ 2 + 5000 * i ∧
    t = [v, .snil, bv, .int .i64 i, s4, s5, s6]) ?_ l.length _ _ ⟨0, r, _, _, _, by omega, by omega, k1, l1, by simpa [encB_len] using o1, by simp [encB_len], rfl⟩
  rintro n t h' ⟨i, bv, s4, s5, s6, hi, hn, K, lo, ob, hbl, rfl⟩
  generalize hpre : encB l.length 2 ++ (l.take i).flatMap entB = pre at *
  have hr' := hr.up K
  by_cases hlt : i < l.length
  · obtain ⟨e, he⟩ : ∃ e, l[i]? = some e := ⟨_, List.getElem?_eq_getElem hlt⟩
    obtain ⟨q, hqi⟩ : ∃ q, tri[i]? = some q := ⟨_, List.getElem?_eq_getElem (by omega)⟩
    have hkl := (hq i q e hqi he).key.lt
    have hvl := (hq i q e hqi he).val.lt
    have hv := (hq i q e hqi he).up K
    obtain ⟨ga, oa, pa, la, na⟩ := hr.at3 hqi
    have na := @na NoB _ K (fun _ _ q => q)
    have kp : Keep NoB h' (h'.push (.rw [.snil, .snil, .bool false])) := Keep.push _ _ _
    have bz : Bx (h'.push (.rw [.snil, .snil, .bool false])) h'.n _ := bx_push
    obtain ⟨kv, vv, gb⟩ := q
    have hgb := hv.gone
    simp only at hgb
    subst hgb
    have hall : allOne (f3 (kv, vv, e.gone)) = true := one_all3 hv.key.one.2 hv.val.one.2 rfl
    have kq : Keep (OneB h'.n) (h'.push (.rw [.snil, .snil, .bool false])) ((h'.push (.rw [.snil, .snil, .bool false])).put h'.n (.rw [kv, vv, .bool e.gone])) := Keep.put _ _ _ rfl
    have b4 : Bx ((h'.push (.rw [.snil, .snil, .bool false])).put h'.n (.rw [kv, vv, .bool e.gone])) h'.n [kv, vv, .bool e.gone] := bz.put
    have hk2 := (hv.key.up kp).keep kq (fun k q1 q2 => by have := hv.key.lt k q1; have q2 : k = h'.n := q2; omega)
    have hv2 := (hv.val.up kp).keep kq (fun k q1 q2 => by have := hv.val.lt k q1; have q2 : k = h'.n := q2; omega)
    have ob2 := (ob.up kp).keep kq (fun k q1 q2 => by have := ob.lt k q1; have q2 : k = h'.n := q2; omega)
    have hKn := K.n
    have K2 := (K.and kp).own kq (fun k q => by have q : k = h'.n := q; omega)
    obtain ⟨h2, hh2⟩ : ∃ h2 : Hp X, h2 = (h'.push (.rw [.snil, .snil, .bool false])).put h'.n (.rw [kv, vv, .bool e.gone]) := ⟨_, rfl⟩
    have hxo := hok e (List.mem_of_getElem? he)
    have hlen3 : 1 ≤ e.key.length ∧ e.key.length ≤ 255 ∧ e.v.length ≤ 4095 := by
      unfold okE at hxo
      simp only [Bool.and_eq_true, decide_eq_true_eq] at hxo
      exact ⟨hxo.1.1, hxo.1.2, hxo.2⟩
    have hel := entB_len e
    have hft := flat_takeE he
    have hpe : encB l.length 2 ++ (l.take (i + 1)).flatMap entB = pre ++ entB e := by rw [hft, ← hpre, List.append_assoc]
    cases hg : e.gone with
    | true =>
      rw [hg] at b4 hall na hh2 hk2 hv2 ob2 K2
      have hev : entB e = [0, UInt8.ofNat e.key.length] ++ e.key := by unfold entB; rw [hg]; simp
      repeat first|(refine BG ?_;first|(refine BH ?_;first|(refine BI ?_;refine BM ?_)|(refine BJ ?_;first|refine BN ?_|refine BO ?_)|refine BV (hr'.lenv (by rfl)) ?_|refine BV (pa rfl rfl) ?_|refine BV (na rfl) ?_|refine BV (v_bx b4 rfl rfl) ?_|refine BP ?_)|(refine BK ?_;first|refine BS rfl rfl ?_|refine BT rfl rfl ?_|refine BU rfl ?_)|(refine BL ?_;first|refine BW (ef_bxn bz rfl rfl hall rfl (Nat.le_refl _)) ?_|refine BQ ?_)|(refine BR ?_;try simp only [setS]))|refine AA ?_|refine AC ?_|refine AD ?_|refine AE ?_|refine AF rfl rfl ?_|refine AG rfl rfl ?_|refine AH ?_|refine AI ?_|refine AJ ?_|refine AK ?_|refine AL ?_|refine AM ?_|refine AN ?_|refine AO ?_|refine AP ?_|refine AQ rfl ?_|refine AR ?_|refine AS ?_|refine AT rfl ?_|refine AU rfl ?_
      refine wd_heap (h' := h2) (by rw [hh2]; rfl) ?_
      rw [← hh2] at b4 hk2 hv2 ob2 K2
      clear kp kq bz hh2
      repeat first|(refine BG ?_;first|(refine BH ?_;first|(refine BI ?_;refine BM ?_)|(refine BJ ?_;first|refine BN ?_|refine BO ?_)|refine BV (v_bx b4 rfl rfl) ?_|refine BV (hk2.lenv (by rfl)) ?_|refine BV (v_conv_u8 rfl) ?_|refine BP ?_)|(refine BK ?_;first|refine BS rfl rfl ?_|refine BT rfl rfl ?_|refine BU rfl ?_)|(refine BL ?_;first|refine BQ ?_)|(refine BR ?_;try simp only [setS]))|(refine BX ?_;first|refine BY rfl ?_|(refine BZ ?_;refine CA ?_)|refine CB (v_bx b4 rfl rfl) ?_|refine CB (hk2.lenv (by rfl)) ?_|refine CB (v_conv_u8 rfl) ?_|refine CC ?_|(refine CD ?_;try simp only [setS]))|refine AA ?_|refine AC ?_|refine AD ?_|refine AE ?_|refine AF rfl rfl ?_|refine AG rfl rfl ?_|refine AH ?_|refine AI ?_|refine AJ ?_|refine AK ?_|refine AL ?_|refine AM ?_|refine AN ?_|refine AO ?_|refine AP ?_|refine AQ rfl ?_|refine AR ?_|refine AS ?_|refine AT rfl ?_|refine AU rfl ?_
      have kp : Keep NoB h2 (h2.push (.rw ([0, UInt8.ofNat e.key.length].map ub))) := Keep.push _ _ _
      have b5 := b4.up kp
      have hk5 := hk2.up kp
      refine wd_alc (cs := [0, UInt8.ofNat e.key.length].map ub) (ef_bs2 (a := ub 0) rfl rfl ⟨rfl, rfl⟩ ⟨rfl, rfl⟩) (by repeat first | exact chk_nil | refine chk_mov rfl (v_bx b5 rfl rfl) ?_ | refine chk_mov rfl (hk5.lenv (by rfl)) ?_ | refine chk_mov rfl (v_conv_u8 rfl) ?_ | refine chk_skip rfl ?_ | refine chk_mov rfl rfl ?_) ?_
      refine wd_app rfl rfl (ob2.up kp) Nat.zero_lt_one (rs_push (n := 2) (z := 1) (l := [0, UInt8.ofNat e.key.length].map ub) rfl) (by omega) (by omega) fun b6 h6 a1 a2 a3 => ?_
      have b6x := b5.keep a2 (fun q => by have := ob.lt _ q; omega)
      have hk6 := hk5.keep a2 (fun k q1 q2 => by have := hkl k q1; have := lo k q2; omega)
      have K6 := (K2.and kp).own a2 lo
      have n2K := K2.n
      have lo6 : ∀ k, blk b6 k → h.n ≤ k := fun k q => by
        rcases a3 k q with q | q
        · exact lo k q
        · simp only [push_n] at q; omega
      refine ⟨(by repeat first | exact chk_nil | refine chk_mov rfl (v_bx b6x rfl rfl) ?_ | refine chk_skip rfl ?_ | refine chk_mov rfl rfl ?_), ?_⟩
      refine wd_app rfl rfl a1 Nat.zero_lt_one hk6 (by omega) (by omega) fun b7 h7 c1 c2 c3 => ?_
      have K7 := K6.own c2 lo6
      have n6K := K6.n
      have lo7 : ∀ k, blk b7 k → h.n ≤ k := fun k q => by
        rcases c3 k q with q | q
        · exact lo6 k q
        · omega
      rw [← List.map_append, ← List.map_append] at c1
      refine ⟨chk_nil, ?_⟩
      repeat first|(refine BG ?_;first|(refine BH ?_;first|(refine BI ?_;refine BM ?_)|(refine BJ ?_;first|refine BN ?_|refine BO ?_)|refine BP ?_)|(refine BK ?_;first|refine BS rfl rfl ?_|refine BT rfl rfl ?_|refine BU rfl ?_)|(refine BL ?_;first|refine BQ ?_)|(refine BR ?_;try simp only [setS]))|(refine BX ?_;first|refine BY rfl ?_|(refine BZ ?_;refine CA ?_)|refine CC ?_|(refine CD ?_;try simp only [setS]))|refine AA ?_|refine AC ?_|refine AD ?_|refine AE ?_|refine AF rfl rfl ?_|refine AG rfl rfl ?_|refine AH ?_|refine AI ?_|refine AJ ?_|refine AK ?_|refine AL ?_|refine AM ?_|refine AN ?_|refine AO ?_|refine AP ?_|refine AQ rfl ?_|refine AR ?_|refine AS ?_|refine AT rfl ?_|refine AU rfl ?_
      rw [show ((i : Int) + 1) = ((i + 1 : Nat) : Int) by omega]
      refine round_norm (n - 1) (by omega) ⟨i + 1, b7, _, _, _, by omega, by omega, K7, lo7, ?_, ?_, rfl⟩
      · rw [hpe, hev]
        have e2 : (pre ++ ([0, UInt8.ofNat e.key.length] ++ e.key)).length = pre.length + 2 + e.key.length := by simp; omega
        rw [e2, ← List.append_assoc]
        exact c1
      · rw [hpe, List.length_append]; omega
    | false =>
      rw [hg] at b4 hall na hh2 hk2 hv2 ob2 K2
      have hvv : e.v = e.val := by unfold EM.v; rw [hg]; rfl
      rw [hvv] at hlen3 hel
      have hev : entB e = [1, UInt8.ofNat e.key.length] ++ e.key ++ (encB e.val.length 2 ++ e.val) := by unfold entB; rw [hg]; simp
      repeat first|(refine BG ?_;first|(refine BH ?_;first|(refine BI ?_;refine BM ?_)|(refine BJ ?_;first|refine BN ?_|refine BO ?_)|refine BV (hr'.lenv (by rfl)) ?_|refine BV (pa rfl rfl) ?_|refine BV (na rfl) ?_|refine BV (v_bx b4 rfl rfl) ?_|refine BP ?_)|(refine BK ?_;first|refine BS rfl rfl ?_|refine BT rfl rfl ?_|refine BU rfl ?_)|(refine BL ?_;first|refine BW (ef_bxn bz rfl rfl hall rfl (Nat.le_refl _)) ?_|refine BQ ?_)|(refine BR ?_;try simp only [setS]))|refine AA ?_|refine AC ?_|refine AD ?_|refine AE ?_|refine AF rfl rfl ?_|refine AG rfl rfl ?_|refine AH ?_|refine AI ?_|refine AJ ?_|refine AK ?_|refine AL ?_|refine AM ?_|refine AN ?_|refine AO ?_|refine AP ?_|refine AQ rfl ?_|refine AR ?_|refine AS ?_|refine AT rfl ?_|refine AU rfl ?_
      refine wd_heap (h' := h2) (by rw [hh2]; rfl) ?_
      rw [← hh2] at b4 hk2 hv2 ob2 K2
      clear kp kq bz hh2
      repeat first|(refine BG ?_;first|(refine BH ?_;first|(refine BI ?_;refine BM ?_)|(refine BJ ?_;first|refine BN ?_|refine BO ?_)|refine BV (v_bx b4 rfl rfl) ?_|refine BV (hk2.lenv (by rfl)) ?_|refine BV (v_conv_u8 rfl) ?_|refine BP ?_)|(refine BK ?_;first|refine BS rfl rfl ?_|refine BT rfl rfl ?_|refine BU rfl ?_)|(refine BL ?_;first|refine BQ ?_)|(refine BR ?_;try simp only [setS]))|(refine BX ?_;first|refine BY rfl ?_|(refine BZ ?_;refine CA ?_)|refine CB (v_bx b4 rfl rfl) ?_|refine CB (hk2.lenv (by rfl)) ?_|refine CB (v_conv_u8 rfl) ?_|refine CC ?_|(refine CD ?_;try simp only [setS]))|refine AA ?_|refine AC ?_|refine AD ?_|refine AE ?_|refine AF rfl rfl ?_|refine AG rfl rfl ?_|refine AH ?_|refine AI ?_|refine AJ ?_|refine AK ?_|refine AL ?_|refine AM ?_|refine AN ?_|refine AO ?_|refine AP ?_|refine AQ rfl ?_|refine AR ?_|refine AS ?_|refine AT rfl ?_|refine AU rfl ?_
      have kp : Keep NoB h2 (h2.push (.rw ([1, UInt8.ofNat e.key.length].map ub))) := Keep.push _ _ _
      have b5 := b4.up kp
      have hk5 := hk2.up kp
      refine wd_alc (cs := [1, UInt8.ofNat e.key.length].map ub) (ef_bs2 (a := ub 1) rfl rfl ⟨rfl, rfl⟩ ⟨rfl, rfl⟩) (by repeat first | exact chk_nil | refine chk_mov rfl (v_bx b5 rfl rfl) ?_ | refine chk_mov rfl (hk5.lenv (by rfl)) ?_ | refine chk_mov rfl (v_conv_u8 rfl) ?_ | refine chk_skip rfl ?_ | refine chk_mov rfl rfl ?_) ?_
      refine wd_app rfl rfl (ob2.up kp) Nat.zero_lt_one (rs_push (n := 2) (z := 1) (l := [1, UInt8.ofNat e.key.length].map ub) rfl) (by omega) (by omega) fun b6 h6 a1 a2 a3 => ?_
      have b6x := b5.keep a2 (fun q => by have := ob.lt _ q; omega)
      have hk6 := hk5.keep a2 (fun k q1 q2 => by have := hkl k q1; have := lo k q2; omega)
      have K6 := (K2.and kp).own a2 lo
      have n2K := K2.n
      have lo6 : ∀ k, blk b6 k → h.n ≤ k := fun k q => by
        rcases a3 k q with q | q
        · exact lo k q
        · simp only [push_n] at q; omega
      refine ⟨(by repeat first | exact chk_nil | refine chk_mov rfl (v_bx b6x rfl rfl) ?_ | refine chk_skip rfl ?_ | refine chk_mov rfl rfl ?_), ?_⟩
      refine wd_app rfl rfl a1 Nat.zero_lt_one hk6 (by omega) (by omega) fun b7 h7 c1 c2 c3 => ?_
      have K7 := K6.own c2 lo6
      have n6K := K6.n
      have lo7 : ∀ k, blk b7 k → h.n ≤ k := fun k q => by
        rcases c3 k q with q | q
        · exact lo6 k q
        · omega
      rw [← List.map_append, ← List.map_append] at c1
      refine ⟨chk_nil, ?_⟩
      have hv7 := (((hv2.up kp).keep a2 (fun k q1 q2 => by have := hvl k q1; have := lo k q2; omega)).keep c2 (fun k q1 q2 => by have := hvl k q1; have := lo6 k q2; omega))
      have b7x := b6x.keep c2 (fun q => by
        rcases a3 _ q with q | q
        · have := ob.lt _ q; omega
        · have := b4.lt; simp only [push_n] at q; omega)
      repeat first|(refine BG ?_;first|(refine BH ?_;first|(refine BI ?_;refine BM ?_)|(refine BJ ?_;first|refine BN ?_|refine BO ?_)|refine BV (v_bx b7x rfl rfl) ?_|refine BV (hv7.lenv (by rfl)) ?_|refine BV (v_conv_u64 rfl (by omega)) ?_|refine BP ?_)|(refine BK ?_;first|refine BS rfl rfl ?_|refine BT rfl rfl ?_|refine BU rfl ?_)|(refine BL ?_;first|refine BQ ?_)|(refine BR ?_;try simp only [setS]))|(refine BX ?_;first|refine BY rfl ?_|(refine BZ ?_;refine CA ?_)|refine CB (v_bx b7x rfl rfl) ?_|refine CB (hv7.lenv (by rfl)) ?_|refine CB (v_conv_u64 rfl (by omega)) ?_|refine CC ?_|(refine CD ?_;try simp only [setS]))|refine AA ?_|refine AC ?_|refine AD ?_|refine AE ?_|refine AF rfl rfl ?_|refine AG rfl rfl ?_|refine AH ?_|refine AI ?_|refine AJ ?_|refine AK ?_|refine AL ?_|refine AM ?_|refine AN ?_|refine AO ?_|refine AP ?_|refine AQ rfl ?_|refine AR ?_|refine AS ?_|refine AT rfl ?_|refine AU rfl ?_
      refine wd_calls_e rfl ((rput_ok hE T.rput c1.rs (by omega) (m := e.val.length) (size := 2) (k := 2) (by decide)).mono fun b8 h8 ⟨⟨k8, l8⟩, o8⟩ => ?_)
      have b8x := b7x.up k8
      have hv8 := hv7.up k8
      refine ⟨(by repeat first | exact chk_nil | refine chk_mov rfl (v_bx b8x rfl rfl) ?_ | refine chk_skip rfl ?_ | refine chk_mov rfl rfl ?_), ?_⟩
      refine wd_app rfl rfl o8 Nat.zero_lt_one hv8 (by omega) (by omega) fun b9 h9 d1 d2 d3 => ?_
      refine ⟨chk_nil, ?_⟩
      repeat first|(refine BG ?_;first|(refine BH ?_;first|(refine BI ?_;refine BM ?_)|(refine BJ ?_;first|refine BN ?_|refine BO ?_)|refine BP ?_)|(refine BK ?_;first|refine BS rfl rfl ?_|refine BT rfl rfl ?_|refine BU rfl ?_)|(refine BL ?_;first|refine BQ ?_)|(refine BR ?_;try simp only [setS]))|(refine BX ?_;first|refine BY rfl ?_|(refine BZ ?_;refine CA ?_)|refine CC ?_|(refine CD ?_;try simp only [setS]))|refine AA ?_|refine AC ?_|refine AD ?_|refine AE ?_|refine AF rfl rfl ?_|refine AG rfl rfl ?_|refine AH ?_|refine AI ?_|refine AJ ?_|refine AK ?_|refine AL ?_|refine AM ?_|refine AN ?_|refine AO ?_|refine AP ?_|refine AQ rfl ?_|refine AR ?_|refine AS ?_|refine AT rfl ?_|refine AU rfl ?_
      rw [show ((i : Int) + 1) = ((i + 1 : Nat) : Int) by omega]
      have n7K := K7.n
      have n8K := k8.n
      refine round_norm (n - 1) (by omega) ⟨i + 1, b9, _, _, _, by omega, by omega, (K7.and k8).own d2 (fun k q => by have := l8 k q; omega), fun k q => ?_, ?_, ?_, rfl⟩
      · rcases d3 k q with q | q
        · have := l8 k q; omega
        · omega
      · rw [hpe, hev]
        rw [encK_map, ← List.map_append, ← List.map_append] at d1
        have e2 : (pre ++ ([1, UInt8.ofNat e.key.length] ++ e.key ++ (encB e.val.length 2 ++ e.val))).length = pre.length + 2 + e.key.length + 2 + e.val.length := by simp [encB_len]; omega
        rw [e2]
        have e3 : pre ++ ([1, UInt8.ofNat e.key.length] ++ e.key ++ (encB e.val.length 2 ++ e.val)) = pre ++ [1, UInt8.ofNat e.key.length] ++ e.key ++ encB e.val.length 2 ++ e.val := by simp [List.append_assoc]
        rw [e3]
        exact d1
      · rw [hpe, List.length_append]; omega
  · have hie : i = l.length := by omega
    subst hie
    repeat first|(refine BG ?_;first|(refine BH ?_;first|(refine BI ?_;refine BM ?_)|(refine BJ ?_;first|refine BN ?_|refine BO ?_)|refine BV (hr'.lenv (by rfl)) ?_|refine BP ?_)|(refine BK ?_;first|refine BS rfl rfl ?_|refine BT rfl rfl ?_|refine BU rfl ?_)|(refine BL ?_;first|refine BQ ?_)|(refine BR ?_;try simp only [setS]))|refine AA ?_|refine AC ?_|refine AD ?_|refine AE ?_|refine AF rfl rfl ?_|refine AG rfl rfl ?_|refine AH ?_|refine AI ?_|refine AJ ?_|refine AK ?_|refine AL ?_|refine AM ?_|refine AN ?_|refine AO ?_|refine AP ?_|refine AQ rfl ?_|refine AR ?_|refine AS ?_|refine AT rfl ?_|refine AU rfl ?_
    rw [List.take_length] at hpre
    refine ⟨⟨K, lo⟩, ?_⟩
    unfold batB
    rw [hpre]
    exact ob
end
end Am
end Go.Proofs.Ythgcdoahoechhaa
namespace Go.Proofs.Ythgcdoahoechhaa
namespace Am
open Go.RowKit
set_option maxRecDepth 100000
def b_frEntry : BF := ⟨22, [0, 2, 3, 15], (.seq (.reg [.mk none (.slot 1) (.eff (.alloc [.snil, .snil, (.bool false)]))]) (.seq (.reg [.mk none (.env 4) (.mov (.mv (.slot 0))), .mk none (.env 5) (.call 117 [(.env 4), (.const (.int .i64 1))]), .mk none (.env 6) (.mov (.bin .eql .no (.env 5) (.const (.int .i64 0)))), .mk none (.env 7) (.mov (.bld [.snil, .snil, (.bool false)] [(2, 1, (.env 6))])), .mk none (.slot 2) (.eff (.alloc [.snil, .snil, (.bool false)])), .mk none .none (.eff (.store 3 (.slot 2) (.env 7)))]) (.seq (.reg [.mk none (.env 8) (.mov (.mv (.slot 0))), .mk none (.env 9) (.mov (.mv (.slot 0))), .mk none (.env 10) (.call 117 [(.env 9), (.const (.int .i64 1))]), .mk none (.env 11) (.call 126 [(.env 8), (.env 10)]), .mk none (.env 12) (.mov (.faddr 0 (.slot 2))), .mk none .none (.eff (.store 1 (.env 12) (.env 11)))]) (.seq (.seq (.reg [.mk none (.env 13) (.mov (.faddr 2 (.slot 2))), .mk none (.env 14) (.mov (.ld1 (.env 13))), .mk none (.slot 3) (.mov (.notb (.env 14)))]) (.cond (.slot 3) (.reg [.mk none (.env 16) (.mov (.mv (.slot 0))), .mk none (.env 17) (.mov (.mv (.slot 0))), .mk none (.env 18) (.call 117 [(.env 17), (.const (.int .i64 2))]), .mk none (.env 19) (.call 126 [(.env 16), (.env 18)]), .mk none (.env 20) (.mov (.faddr 1 (.slot 2))), .mk none .none (.eff (.store 1 (.env 20) (.env 19)))]) .skip)) (.seq (.reg [.mk none (.env 21) (.mov (.ldn 3 (.slot 2))), .mk none .none (.eff (.store 3 (.slot 1) (.env 21)))]) .ret))))), [.celln 3 (.slot 1)]⟩
def parseE (bs : List UInt8) : Option (Bool × List UInt8 × List UInt8 × List UInt8) :=
  if bs.length < 1 then none else
  if (bs.drop 1).length < 1 then none else
  if ((bs.drop 1).drop 1).length < be ((bs.drop 1).take 1) then none else
  if be (bs.take 1) = 0 then some (true, ((bs.drop 1).drop 1).take (be ((bs.drop 1).take 1)), [], ((bs.drop 1).drop 1).drop (be ((bs.drop 1).take 1))) else
  if (((bs.drop 1).drop 1).drop (be ((bs.drop 1).take 1))).length < 2 then none else
  if ((((bs.drop 1).drop 1).drop (be ((bs.drop 1).take 1))).drop 2).length < be ((((bs.drop 1).drop 1).drop (be ((bs.drop 1).take 1))).take 2) then none else
  some (false, ((bs.drop 1).drop 1).take (be ((bs.drop 1).take 1)), ((((bs.drop 1).drop 1).drop (be ((bs.drop 1).take 1))).drop 2).take (be ((((bs.drop 1).drop 1).drop (be ((bs.drop 1).take 1))).take 2)), ((((bs.drop 1).drop 1).drop (be ((bs.drop 1).take 1))).drop 2).drop (be ((((bs.drop 1).drop 1).drop (be ((bs.drop 1).take 1))).take 2)))
section
variable {X : Type} {E : Nat → Option (Ent X)}
def isI (v : AV) : Prop := ∃ ty x, v = .iface ty x
theorem number_x (hE : ∀ f e, E f = some e → e.plain) (hf : E 117 = some (.bc b_frNumber)) (ht : E 126 = some (.bc b_frTake)) (hc : E 85 = some (.bc b_clone)) (hg : E 112 = some (.bc b_octGet)) {h : Hp X} {g n m : Nat} {bs : List UInt8} (hr : Rdr h g m bs) (h7 : n ≤ 7) (hb : bs.length ≤ 1099511627776) :
    WC (lim E) 117 [.ptr g 0, .int .i64 n] h (fun r h' => n ≤ bs.length ∧ Rdr h' g m (bs.drop n) ∧ Keep (OneB g) h h' ∧ r = .int .i64 (be (bs.take n))) (fun v h' => bs.length < n ∧ isI v ∧ h' = h) := by
  by_cases hn : n ≤ bs.length
  · exact .of_wf ((number_ok hE hf ht hc hg hr hn h7 hb).mono fun r h' q => ⟨hn, q⟩)
  · obtain ⟨v, h', e, q⟩ := (number_no hE hf ht hr (by omega : bs.length < n)).out
    exact .of_wp ⟨⟨v, h', e, by omega, q⟩⟩
theorem take_x (hE : ∀ f e, E f = some e → e.plain) (ht : E 126 = some (.bc b_frTake)) (hc : E 85 = some (.bc b_clone)) {h : Hp X} {g n m : Nat} {bs : List UInt8} (hr : Rdr h g m bs) (hb : bs.length ≤ 1099511627776) :
    WC (lim E) 126 [.ptr g 0, .int .i64 n] h (fun r h' => n ≤ bs.length ∧ Rdr h' g m (bs.drop n) ∧ Keep (OneB g) h h' ∧ (∀ k, blk r k → h.n ≤ k) ∧ OS h' 1 r (bs.take n).length ((bs.take n).map ub)) (fun v h' => bs.length < n ∧ isI v ∧ h' = h) := by
  by_cases hn : n ≤ bs.length
  · exact .of_wf ((take_ok hE ht hc hr hn hb).mono fun r h' q => ⟨hn, q⟩)
  · obtain ⟨v, h', e, q⟩ := (take_no hE ht hr (by omega : bs.length < n)).out
    exact .of_wp ⟨⟨v, h', e, by omega, q⟩⟩
theorem Rdr.push {h : Hp X} {g m : Nat} {bs : List UInt8} (a : Rdr h g m bs) (c : AB X) : Rdr (h.push c) g m bs := a.keep (Keep.push NoB h c) (fun _ _ _ _ q => q) (fun q => q)
theorem Rdr.put {h : Hp X} {g m j : Nat} {bs : List UInt8} (a : Rdr h g m bs) (c : AB X) (hj : j ≠ g) (hm : m ≤ j) : Rdr (h.put j c) g m bs := by
  obtain ⟨lt, bv, h1, h2, h3, h4⟩ := a
  refine ⟨lt, bv, by rw [Hp.put_ne _ _ _ (Ne.symm hj)]; exact h1, h2.keep (Keep.put (S := OneB j) h j c rfl) (fun k hk q => ?_), h3, h4⟩
  have := h4 k hk
  have : k = j := q
  omega
structure EntC (h : Hp X) (gone : Bool) (key value : List UInt8) (cells : List AV) (lo : Nat) : Prop where
  ok : ∃ kv vv, cells = [kv, vv, .bool gone] ∧ OS h 1 kv key.length (key.map ub) ∧ OS h 1 vv value.length (value.map ub) ∧ (∀ k, blk kv k → lo ≤ k) ∧ (∀ k, blk vv k → lo ≤ k)
theorem entry_x (hE : ∀ f e, E f = some e → e.plain) (he : E 118 = some (.bc b_frEntry)) (hf : E 117 = some (.bc b_frNumber)) (ht : E 126 = some (.bc b_frTake)) (hc : E 85 = some (.bc b_clone)) (hg : E 112 = some (.bc b_octGet)) {h : Hp X} {g m : Nat} {bs : List UInt8} (hr : Rdr h g m bs) (hm : m ≤ h.n) (hb : bs.length ≤ 1099511627776) :
    WC (lim E) 118 [.ptr g 0] h (fun r h' => ∃ gone key value rest cells, parseE bs = some (gone, key, value, rest) ∧ r = .agg cells ∧ Rdr h' g m rest ∧ Keep (OneB g) h h' ∧ EntC h' gone key value cells h.n) (fun v h' => parseE bs = none ∧ isI v ∧ Keep (OneB g) h h') := by
  refine wc_bc hE he rfl ?_
  simp only [b_frEntry, List.map, getS]
  have lt := hr.lt
  repeat first|(refine BG ?_;first|(refine BH ?_;first|(refine BI ?_;refine BM ?_)|(refine BJ ?_;first|refine BN ?_|refine BO ?_)|refine BP ?_)|(refine BK ?_;first|refine BS rfl rfl ?_|refine BT rfl rfl ?_|refine BU rfl ?_)|(refine BL ?_;first|refine BQ ?_)|(refine BR ?_;try simp only [setS]))|refine AA ?_|refine AC ?_|refine AD ?_|refine AE ?_|refine AF rfl rfl ?_|refine AG rfl rfl ?_|refine AH ?_|refine AI ?_|refine AJ ?_|refine AK ?_|refine AL ?_|refine AM ?_|refine AN ?_|refine AO ?_|refine AP ?_|refine AQ rfl ?_|refine AR ?_|refine AS ?_|refine AT rfl ?_|refine AU rfl ?_|refine AW ?_|refine AX ?_|refine AY ?_|refine AZ ?_|refine BA rfl ?_|refine BB rfl ?_|refine BE ?_
  refine wr_callx_e rfl ((number_x hE hf ht hc hg (hr.push _) (n := 1) (by omega) hb).mono (fun r h1 ⟨n1, r1, k1, e1⟩ => ?_) (fun v h1 ⟨n1, i1, e1⟩ => ?_))
  case refine_2 =>
    repeat first|(refine BG ?_;first|(refine BH ?_;first|(refine BI ?_;refine BM ?_)|(refine BJ ?_;first|refine BN ?_|refine BO ?_)|refine BP ?_)|(refine BK ?_;first|refine BS rfl rfl ?_|refine BT rfl rfl ?_|refine BU rfl ?_)|(refine BL ?_;first|refine BQ ?_)|(refine BR ?_;try simp only [setS]))|refine AA ?_|refine AC ?_|refine AD ?_|refine AE ?_|refine AF rfl rfl ?_|refine AG rfl rfl ?_|refine AH ?_|refine AI ?_|refine AJ ?_|refine AK ?_|refine AL ?_|refine AM ?_|refine AN ?_|refine AO ?_|refine AP ?_|refine AQ rfl ?_|refine AR ?_|refine AS ?_|refine AT rfl ?_|refine AU rfl ?_|refine AW ?_|refine AX ?_|refine AY ?_|refine AZ ?_|refine BA rfl ?_|refine BB rfl ?_|refine BE ?_
    subst e1
    exact ⟨by unfold parseE; rw [if_pos n1], i1, Keep.push _ _ _⟩
  subst e1
  have K1 : Keep (OneB g) h h1 := (Keep.push (OneB g) h _).trans k1 (fun _ _ q => q)
  have p1 : h1.get h.n = some (.rw [.snil, .snil, .bool false]) := by rw [k1.get h.n (Nat.lt_succ_self _) (fun q => by have : h.n = g := q; omega)]; exact Hp.push_self _ _
  repeat first|(refine BG ?_;first|(refine BH ?_;first|(refine BI ?_;refine BM ?_)|(refine BJ ?_;first|refine BN ?_|refine BO ?_)|refine BP ?_)|(refine BK ?_;first|refine BS rfl rfl ?_|refine BT rfl rfl ?_|refine BU rfl ?_)|(refine BL ?_;first|refine BW (ef_storeN rfl rfl rfl rfl (Hp.push_self _ _) (Nat.le_refl _)) ?_|refine BQ ?_)|(refine BR ?_;try simp only [setS]))|refine AA ?_|refine AC ?_|refine AD ?_|refine AE ?_|refine AF rfl rfl ?_|refine AG rfl rfl ?_|refine AH ?_|refine AI ?_|refine AJ ?_|refine AK ?_|refine AL ?_|refine AM ?_|refine AN ?_|refine AO ?_|refine AP ?_|refine AQ rfl ?_|refine AR ?_|refine AS ?_|refine AT rfl ?_|refine AU rfl ?_|refine AW ?_|refine AX ?_|refine AY ?_|refine AZ ?_|refine BA rfl ?_|refine BB rfl ?_|refine BE ?_
  obtain ⟨gb, hgb⟩ : ∃ gb : Bool, gb = (((be (bs.take 1) : Nat) : Int) == 0) := ⟨_, rfl⟩
  obtain ⟨h2, hh2⟩ : ∃ h2 : Hp X, h2 = ((h1.push (.rw [.snil, .snil, .bool false])).put h1.n (.rw [.snil, .snil, .bool gb])) := ⟨_, rfl⟩
  refine wr_heap (h' := h2) (by rw [hh2, hgb]; rfl) ?_
  have lt1 : h.n < h1.n := by have := k1.n; simp only [push_n] at this; omega
  have g2 : h2.get h1.n = some (.rw [.snil, .snil, .bool gb]) := by rw [hh2]; exact Hp.put_self _ _ _
  have R2 : Rdr h2 g m (bs.drop 1) := by rw [hh2]; exact (r1.push _).put _ (by omega) (by omega)
  have K2 : Keep (OneB g) h1 h2 := by rw [hh2]; exact (Keep.push _ _ _).trans (Keep.put (S := OneB h1.n) _ _ _ rfl) (fun k hk q => by have : k = h1.n := q; omega)
  have n2 : h2.n = h1.n + 1 := by rw [hh2]; rfl
  have hb1 : (bs.drop 1).length ≤ 1099511627776 := by rw [List.length_drop]; omega
  refine wr_callx_e rfl ((number_x hE hf ht hc hg R2 (n := 1) (by omega) hb1).mono (fun r h3 ⟨n3, r3, k3, e3⟩ => ?_) (fun v h3 ⟨n3, i3, e3⟩ => ?_))
  case refine_2 =>
    repeat first|(refine BG ?_;first|(refine BH ?_;first|(refine BI ?_;refine BM ?_)|(refine BJ ?_;first|refine BN ?_|refine BO ?_)|refine BP ?_)|(refine BK ?_;first|refine BS rfl rfl ?_|refine BT rfl rfl ?_|refine BU rfl ?_)|(refine BL ?_;first|refine BQ ?_)|(refine BR ?_;try simp only [setS]))|refine AA ?_|refine AC ?_|refine AD ?_|refine AE ?_|refine AF rfl rfl ?_|refine AG rfl rfl ?_|refine AH ?_|refine AI ?_|refine AJ ?_|refine AK ?_|refine AL ?_|refine AM ?_|refine AN ?_|refine AO ?_|refine AP ?_|refine AQ rfl ?_|refine AR ?_|refine AS ?_|refine AT rfl ?_|refine AU rfl ?_|refine AW ?_|refine AX ?_|refine AY ?_|refine AZ ?_|refine BA rfl ?_|refine BB rfl ?_|refine BE ?_
    subst e3
    exact ⟨by unfold parseE; rw [if_neg (by omega), if_pos n3], i3, K1.trans K2 (fun _ _ q => q)⟩
  subst e3
  have hb2 : ((bs.drop 1).drop 1).length ≤ 1099511627776 := by rw [List.length_drop]; omega
  repeat first|(refine BG ?_;first|(refine BH ?_;first|(refine BI ?_;refine BM ?_)|(refine BJ ?_;first|refine BN ?_|refine BO ?_)|refine BP ?_)|(refine BK ?_;first|refine BS rfl rfl ?_|refine BT rfl rfl ?_|refine BU rfl ?_)|(refine BL ?_;first|refine BQ ?_)|(refine BR ?_;try simp only [setS]))|refine AA ?_|refine AC ?_|refine AD ?_|refine AE ?_|refine AF rfl rfl ?_|refine AG rfl rfl ?_|refine AH ?_|refine AI ?_|refine AJ ?_|refine AK ?_|refine AL ?_|refine AM ?_|refine AN ?_|refine AO ?_|refine AP ?_|refine AQ rfl ?_|refine AR ?_|refine AS ?_|refine AT rfl ?_|refine AU rfl ?_|refine AW ?_|refine AX ?_|refine AY ?_|refine AZ ?_|refine BA rfl ?_|refine BB rfl ?_|refine BE ?_
  refine wr_callx_e rfl ((take_x hE ht hc r3 (n := be ((bs.drop 1).take 1)) hb2).mono (fun kv h4 ⟨n4, r4, k4, b4, o4⟩ => ?_) (fun v h4 ⟨n4, i4, e4⟩ => ?_))
  case refine_2 =>
    repeat first|(refine BG ?_;first|(refine BH ?_;first|(refine BI ?_;refine BM ?_)|(refine BJ ?_;first|refine BN ?_|refine BO ?_)|refine BP ?_)|(refine BK ?_;first|refine BS rfl rfl ?_|refine BT rfl rfl ?_|refine BU rfl ?_)|(refine BL ?_;first|refine BQ ?_)|(refine BR ?_;try simp only [setS]))|refine AA ?_|refine AC ?_|refine AD ?_|refine AE ?_|refine AF rfl rfl ?_|refine AG rfl rfl ?_|refine AH ?_|refine AI ?_|refine AJ ?_|refine AK ?_|refine AL ?_|refine AM ?_|refine AN ?_|refine AO ?_|refine AP ?_|refine AQ rfl ?_|refine AR ?_|refine AS ?_|refine AT rfl ?_|refine AU rfl ?_|refine AW ?_|refine AX ?_|refine AY ?_|refine AZ ?_|refine BA rfl ?_|refine BB rfl ?_|refine BE ?_
    subst e4
    exact ⟨by unfold parseE; rw [if_neg (by omega), if_neg (by omega), if_pos n4], i4, (K1.trans K2 (fun _ _ q => q)).trans k3 (fun _ _ q => q)⟩
  have g4 : h4.get h1.n = some (.rw [.snil, .snil, .bool gb]) := by
    rw [k4.get h1.n (by have := k3.n; omega) (fun q => by have : h1.n = g := q; have := hr.lt; omega), k3.get h1.n (by omega) (fun q => by have : h1.n = g := q; have := hr.lt; omega)]
    exact g2
  repeat first|(refine BG ?_;first|(refine BH ?_;first|(refine BI ?_;refine BM ?_)|(refine BJ ?_;first|refine BN ?_|refine BO ?_)|refine BP ?_)|(refine BK ?_;first|refine BS rfl rfl ?_|refine BT rfl rfl ?_|refine BU rfl ?_)|(refine BL ?_;first|refine BW (ef_store1 rfl rfl o4.one g4 (Nat.zero_lt_succ _)) ?_|refine BQ ?_)|(refine BR ?_;try simp only [setS]))|refine AA ?_|refine AC ?_|refine AD ?_|refine AE ?_|refine AF rfl rfl ?_|refine AG rfl rfl ?_|refine AH ?_|refine AI ?_|refine AJ ?_|refine AK ?_|refine AL ?_|refine AM ?_|refine AN ?_|refine AO ?_|refine AP ?_|refine AQ rfl ?_|refine AR ?_|refine AS ?_|refine AT rfl ?_|refine AU rfl ?_|refine AW ?_|refine AX ?_|refine AY ?_|refine AZ ?_|refine BA rfl ?_|refine BB rfl ?_|refine BE ?_
  obtain ⟨h5, hh5⟩ : ∃ h5 : Hp X, h5 = h4.put h1.n (.rw [kv, .snil, .bool gb]) := ⟨_, rfl⟩
  refine wr_heap (h' := h5) (by rw [hh5]; rfl) ?_
  have K4 : Keep (OneB g) h h4 := ((K1.trans K2 (fun _ _ q => q)).trans k3 (fun _ _ q => q)).trans k4 (fun _ _ q => q)
  have K5 : Keep (OneB g) h h5 := by rw [hh5]; exact K4.trans (Keep.put (S := OneB h1.n) _ _ _ rfl) (fun k hk q => by have : k = h1.n := q; omega)
  have hlt4 : h1.n < h4.n := by have := k3.n; have := k4.n; omega
  have g5 : h5.get h1.n = some (.rw [kv, .snil, .bool gb]) := by rw [hh5]; exact Hp.put_self _ _ _
  have R5 := r4.put (.rw [kv, .snil, .bool gb]) (j := h1.n) (by omega) (by omega)
  rw [← hh5] at R5
  have o5 := o4.keep (S := OneB h1.n) (h' := h5) (by rw [hh5]; exact Keep.put _ _ _ rfl) (fun k hk q => by have : k = h1.n := q; have := b4 k hk; have := k3.n; omega)
  have q5 : h5.get h.n = some (.rw [.snil, .snil, .bool false]) := by
    rw [hh5, Hp.put_ne _ _ _ (by omega), k4.get h.n (by have := k3.n; omega) (fun q => by have : h.n = g := q; omega), k3.get h.n (by omega) (fun q => by have : h.n = g := q; omega), K2.get h.n (by omega) (fun q => by have : h.n = g := q; omega)]
    exact p1
  have n5 : h5.n = h4.n := by rw [hh5]; rfl
  by_cases hz : be (bs.take 1) = 0
  · have hgt : gb = true := by rw [hgb, hz]; rfl
    subst hgt
    have hall : allOne [kv, .snil, .bool true] = true := by
      have := o5.one.2
      unfold allOne
      cases kv <;> first | (cases this; done) | rfl
    repeat first|(refine BG ?_;first|(refine BH ?_;first|(refine BI ?_;refine BM ?_)|(refine BJ ?_;first|refine BN ?_|refine BO ?_)|refine BV (v_ld1 rfl g5 rfl) ?_|refine BV (v_ldn rfl g5 (Nat.le_refl _)) ?_|refine BP ?_)|(refine BK ?_;first|refine BS rfl rfl ?_|refine BT rfl rfl ?_|refine BU rfl ?_)|(refine BL ?_;first|refine BW (ef_storeN rfl rfl hall rfl q5 (Nat.le_refl _)) ?_|refine BQ ?_)|(refine BR ?_;try simp only [setS]))|refine AA ?_|refine AC ?_|refine AD ?_|refine AE ?_|refine AF rfl rfl ?_|refine AG rfl rfl ?_|refine AH ?_|refine AI ?_|refine AJ ?_|refine AK ?_|refine AL ?_|refine AM ?_|refine AN ?_|refine AO ?_|refine AP ?_|refine AQ rfl ?_|refine AR ?_|refine AS ?_|refine AT rfl ?_|refine AU rfl ?_|refine AW ?_|refine AX ?_|refine AY ?_|refine AZ ?_|refine BA rfl ?_|refine BB rfl ?_|refine BE ?_
    obtain ⟨h6, hh6⟩ : ∃ h6 : Hp X, h6 = h5.put h.n (.rw [kv, .snil, .bool true]) := ⟨_, rfl⟩
    refine BA (l := [.agg [kv, .snil, .bool true]]) (res_ldn (g := h.n) (o := 0) rfl (Hp.put_self _ _ _) (Nat.le_refl _)) ?_
    have kp : Keep (OneB h.n) h5 (h5.put h.n (.rw [kv, .snil, .bool true])) := Keep.put _ _ _ rfl
    refine ⟨true, _, [], _, _, ?_, rfl, R5.put _ (by omega) hm, K5.trans kp (fun k hk q => by have : k = h.n := q; omega), ⟨⟨kv, .snil, rfl, o5.keep kp (fun k hk q => ?_), ⟨rfl, rfl⟩, fun k hk => ?_, fun k q => q.elim⟩⟩⟩
    · unfold parseE
      rw [if_neg (by omega), if_neg (by omega), if_neg (by omega), if_pos hz]
    · have : k = h.n := q
      have := b4 k hk
      have := k3.n
      omega
    · have := b4 k hk
      have := k3.n
      omega
  · have hgt : gb = false := by rw [hgb]; exact beq_false_of_ne (by omega)
    subst hgt
    have hb3 : (((bs.drop 1).drop 1).drop (be ((bs.drop 1).take 1))).length ≤ 1099511627776 := by rw [List.length_drop]; omega
    repeat first|(refine BG ?_;first|(refine BH ?_;first|(refine BI ?_;refine BM ?_)|(refine BJ ?_;first|refine BN ?_|refine BO ?_)|refine BV (v_ld1 rfl g5 rfl) ?_|refine BP ?_)|(refine BK ?_;first|refine BS rfl rfl ?_|refine BT rfl rfl ?_|refine BU rfl ?_)|(refine BL ?_;first|refine BQ ?_)|(refine BR ?_;try simp only [setS]))|refine AA ?_|refine AC ?_|refine AD ?_|refine AE ?_|refine AF rfl rfl ?_|refine AG rfl rfl ?_|refine AH ?_|refine AI ?_|refine AJ ?_|refine AK ?_|refine AL ?_|refine AM ?_|refine AN ?_|refine AO ?_|refine AP ?_|refine AQ rfl ?_|refine AR ?_|refine AS ?_|refine AT rfl ?_|refine AU rfl ?_|refine AW ?_|refine AX ?_|refine AY ?_|refine AZ ?_|refine BA rfl ?_|refine BB rfl ?_|refine BE ?_
    refine wr_callx_e rfl ((number_x hE hf ht hc hg R5 (n := 2) (by omega) hb3).mono (fun r h6 ⟨n6, r6, k6, e6⟩ => ?_) (fun v h6 ⟨n6, i6, e6⟩ => ?_))
    case refine_2 =>
      repeat first|(refine BG ?_;first|(refine BH ?_;first|(refine BI ?_;refine BM ?_)|(refine BJ ?_;first|refine BN ?_|refine BO ?_)|refine BP ?_)|(refine BK ?_;first|refine BS rfl rfl ?_|refine BT rfl rfl ?_|refine BU rfl ?_)|(refine BL ?_;first|refine BQ ?_)|(refine BR ?_;try simp only [setS]))|refine AA ?_|refine AC ?_|refine AD ?_|refine AE ?_|refine AF rfl rfl ?_|refine AG rfl rfl ?_|refine AH ?_|refine AI ?_|refine AJ ?_|refine AK ?_|refine AL ?_|refine AM ?_|refine AN ?_|refine AO ?_|refine AP ?_|refine AQ rfl ?_|refine AR ?_|refine AS ?_|refine AT rfl ?_|refine AU rfl ?_|refine AW ?_|refine AX ?_|refine AY ?_|refine AZ ?_|refine BA rfl ?_|refine BB rfl ?_|refine BE ?_
      subst e6
      exact ⟨by unfold parseE; rw [if_neg (by omega), if_neg (by omega), if_neg (by omega), if_neg hz, if_pos n6], i6, K5⟩
    subst e6
    have hb4 : ((((bs.drop 1).drop 1).drop (be ((bs.drop 1).take 1))).drop 2).length ≤ 1099511627776 := by rw [List.length_drop]; omega
    repeat first|(refine BG ?_;first|(refine BH ?_;first|(refine BI ?_;refine BM ?_)|(refine BJ ?_;first|refine BN ?_|refine BO ?_)|refine BP ?_)|(refine BK ?_;first|refine BS rfl rfl ?_|refine BT rfl rfl ?_|refine BU rfl ?_)|(refine BL ?_;first|refine BQ ?_)|(refine BR ?_;try simp only [setS]))|refine AA ?_|refine AC ?_|refine AD ?_|refine AE ?_|refine AF rfl rfl ?_|refine AG rfl rfl ?_|refine AH ?_|refine AI ?_|refine AJ ?_|refine AK ?_|refine AL ?_|refine AM ?_|refine AN ?_|refine AO ?_|refine AP ?_|refine AQ rfl ?_|refine AR ?_|refine AS ?_|refine AT rfl ?_|refine AU rfl ?_|refine AW ?_|refine AX ?_|refine AY ?_|refine AZ ?_|refine BA rfl ?_|refine BB rfl ?_|refine BE ?_
    refine wr_callx_e rfl ((take_x hE ht hc r6 hb4).mono (fun vv h7 ⟨n7, r7, k7, b7, o7⟩ => ?_) (fun v h7 ⟨n7, i7, e7⟩ => ?_))
    case refine_2 =>
      repeat first|(refine BG ?_;first|(refine BH ?_;first|(refine BI ?_;refine BM ?_)|(refine BJ ?_;first|refine BN ?_|refine BO ?_)|refine BP ?_)|(refine BK ?_;first|refine BS rfl rfl ?_|refine BT rfl rfl ?_|refine BU rfl ?_)|(refine BL ?_;first|refine BQ ?_)|(refine BR ?_;try simp only [setS]))|refine AA ?_|refine AC ?_|refine AD ?_|refine AE ?_|refine AF rfl rfl ?_|refine AG rfl rfl ?_|refine AH ?_|refine AI ?_|refine AJ ?_|refine AK ?_|refine AL ?_|refine AM ?_|refine AN ?_|refine AO ?_|refine AP ?_|refine AQ rfl ?_|refine AR ?_|refine AS ?_|refine AT rfl ?_|refine AU rfl ?_|refine AW ?_|refine AX ?_|refine AY ?_|refine AZ ?_|refine BA rfl ?_|refine BB rfl ?_|refine BE ?_
      subst e7
      exact ⟨by unfold parseE; rw [if_neg (by omega), if_neg (by omega), if_neg (by omega), if_neg hz, if_neg (by omega), if_pos n7], i7, K5.trans k6 (fun _ _ q => q)⟩
    have hg1 : h1.n ≠ g := by omega
    have hg0 : h.n ≠ g := by omega
    have K7 : Keep (OneB g) h5 h7 := k6.trans k7 (fun _ _ q => q)
    have g7 : h7.get h1.n = some (.rw [kv, .snil, .bool false]) := by rw [K7.get h1.n (by omega) (fun q => hg1 q)]; exact g5
    have q7 : h7.get h.n = some (.rw [.snil, .snil, .bool false]) := by rw [K7.get h.n (by omega) (fun q => hg0 q)]; exact q5
    obtain ⟨h8, hh8⟩ : ∃ h8 : Hp X, h8 = h7.put h1.n (.rw [kv, vv, .bool false]) := ⟨_, rfl⟩
    have k8 : Keep (OneB h1.n) h7 h8 := by rw [hh8]; exact Keep.put _ _ _ rfl
    have g8 : h8.get h1.n = some (.rw [kv, vv, .bool false]) := by rw [hh8]; exact Hp.put_self _ _ _
    have q8 : h8.get h.n = some (.rw [.snil, .snil, .bool false]) := by rw [hh8, Hp.put_ne _ _ _ (by omega)]; exact q7
    have n8 : h8.n = h7.n := by rw [hh8]; rfl
    have n57 := K7.n
    have b4' := fun k q => b4 k q
    have o5k := o5.lt
    have o7k := o7.lt
    have okv : OS h8 1 kv _ _ := (o5.keep K7 (fun k q1 q2 => by have := b4 k q1; have q2 : k = g := q2; have := k3.n; omega)).keep k8 (fun k q1 q2 => by have := b4 k q1; have q2 : k = h1.n := q2; have := k3.n; omega)
    have ovv : OS h8 1 vv _ _ := o7.keep k8 (fun k q1 q2 => by have := b7 k q1; have q2 : k = h1.n := q2; have := k6.n; have := k3.n; omega)
    have R8 := r7.put (.rw [kv, vv, .bool false]) (j := h1.n) (by omega) (by omega)
    rw [← hh8] at R8
    have hall : allOne [kv, vv, .bool false] = true := by
      have h1 := okv.one.2
      have h2 := ovv.one.2
      unfold allOne
      cases kv <;> first | (cases h1; done) | (cases vv <;> first | (cases h2; done) | rfl)
    repeat first|(refine BG ?_;first|(refine BH ?_;first|(refine BI ?_;refine BM ?_)|(refine BJ ?_;first|refine BN ?_|refine BO ?_)|refine BP ?_)|(refine BK ?_;first|refine BS rfl rfl ?_|refine BT rfl rfl ?_|refine BU rfl ?_)|(refine BL ?_;first|refine BW (ef_store1 rfl rfl o7.one g7 (Nat.succ_lt_succ (Nat.zero_lt_succ _))) ?_|refine BQ ?_)|(refine BR ?_;try simp only [setS]))|refine AA ?_|refine AC ?_|refine AD ?_|refine AE ?_|refine AF rfl rfl ?_|refine AG rfl rfl ?_|refine AH ?_|refine AI ?_|refine AJ ?_|refine AK ?_|refine AL ?_|refine AM ?_|refine AN ?_|refine AO ?_|refine AP ?_|refine AQ rfl ?_|refine AR ?_|refine AS ?_|refine AT rfl ?_|refine AU rfl ?_|refine AW ?_|refine AX ?_|refine AY ?_|refine AZ ?_|refine BA rfl ?_|refine BB rfl ?_|refine BE ?_
    refine wr_heap (h' := h8) (by rw [hh8]; rfl) ?_
    repeat first|(refine BG ?_;first|(refine BH ?_;first|(refine BI ?_;refine BM ?_)|(refine BJ ?_;first|refine BN ?_|refine BO ?_)|refine BV (v_ld1 rfl g8 rfl) ?_|refine BV (v_ldn rfl g8 (Nat.le_refl _)) ?_|refine BP ?_)|(refine BK ?_;first|refine BS rfl rfl ?_|refine BT rfl rfl ?_|refine BU rfl ?_)|(refine BL ?_;first|refine BW (ef_storeN rfl rfl hall rfl q8 (Nat.le_refl _)) ?_|refine BQ ?_)|(refine BR ?_;try simp only [setS]))|refine AA ?_|refine AC ?_|refine AD ?_|refine AE ?_|refine AF rfl rfl ?_|refine AG rfl rfl ?_|refine AH ?_|refine AI ?_|refine AJ ?_|refine AK ?_|refine AL ?_|refine AM ?_|refine AN ?_|refine AO ?_|refine AP ?_|refine AQ rfl ?_|refine AR ?_|refine AS ?_|refine AT rfl ?_|refine AU rfl ?_|refine AW ?_|refine AX ?_|refine AY ?_|refine AZ ?_|refine BA rfl ?_|refine BB rfl ?_|refine BE ?_
    refine BA (l := [.agg [kv, vv, .bool false]]) (res_ldn (g := h.n) (o := 0) rfl (Hp.put_self _ _ _) (Nat.le_refl _)) ?_
    have kp : Keep (OneB h.n) h8 (h8.put h.n (.rw [kv, vv, .bool false])) := Keep.put _ _ _ rfl
    refine ⟨false, _, _, _, _, ?_, rfl, R8.put _ (by omega) hm, ((K5.trans K7 (fun _ _ q => q)).trans k8 (fun k hk q => by have : k = h1.n := q; omega)).trans kp (fun k hk q => by have : k = h.n := q; omega), ⟨⟨kv, vv, rfl, okv.keep kp (fun k q1 q2 => ?_), ovv.keep kp (fun k q1 q2 => ?_), fun k q => ?_, fun k q => ?_⟩⟩⟩
    · unfold parseE
      rw [if_neg (by omega), if_neg (by omega), if_neg (by omega), if_neg hz, if_neg (by omega), if_neg (by omega)]
    · have := b4 k q1; have q2 : k = h.n := q2; have := k3.n; omega
    · have := b7 k q1; have q2 : k = h.n := q2; have := k6.n; have := k3.n; omega
    · have := b4 k q; have := k3.n; omega
    · have := b7 k q; have := k6.n; have := k3.n; omega
end
end Am
end Go.Proofs.Ythgcdoahoechhaa
namespace Go.Proofs.Ythgcdoahoechhaa
namespace Am
open Go.RowKit
set_option maxRecDepth 100000
def b_frRead : DF := ⟨21, [0, 2, 3, 4, 12], (.right (.reg [.mk none (.slot 1) (.eff (.alloc [.snil]))]) (.left (.here (.mkfn 116 [(.slot 1)]) (.env 5) (.env 5)) (.seq (.reg [.mk none (.env 6) (.mov (.mv (.slot 0))), .mk none (.env 7) (.mov (.bld [.snil] [(0, 1, (.env 6))])), .mk none (.env 8) (.eff (.box (.env 7))), .mk none (.slot 2) (.mov (.mv (.env 8)))]) (.seq (.seq (.reg [.mk none (.env 9) (.mov (.mv (.slot 2))), .mk none (.env 10) (.call 117 [(.env 9), (.const (.int .i64 2))]), .mk none (.slot 3) (.mov (.mv (.env 10)))]) (.block 0 (.loop (.seq (.seq (.reg [.mk none (.env 11) (.mov (.mv (.slot 3))), .mk none (.slot 4) (.mov (.bin .gtr .no (.env 11) (.const (.int .i64 0))))]) (.cond (.slot 4) .skip (.exit 0))) (.seq (.block 1 (.dreg [(.mk none (.env 15) (.mov (.ld1 (.slot 1))), []), (.mk none (.env 16) (.mov (.mv (.slot 2))), []), (.mk none (.env 17) (.call 118 [(.env 16)]), [0]), (.mk none (.env 18) (.eff (.bslice 3 1 [.snil, .snil, (.bool false)] [(0, 3, (.env 17))])), [0]), (.mk none (.env 19) (.eff (.append 3 56 (.env 15) (.env 18))), []), (.mk none .none (.eff (.store 1 (.slot 1) (.env 19))), [])])) (.reg [.mk none (.env 13) (.mov (.mv (.slot 3))), .mk none (.env 14) (.mov (.bin .sub .no (.env 13) (.const (.int .i64 1)))), .mk none (.slot 3) (.mov (.mv (.env 14)))])))))) (.seq (.reg [.mk none (.env 20) (.mov (.ld1 (.slot 1))), .mk none .none (.eff (.store 1 (.slot 1) (.env 20)))]) .ret))))), [.cell1 (.slot 1)], ⟨116, 3, [0, 2], (.env 1), (.slot 1), (.cond (.slot 1) (.reg [.mk none .none (.eff (.store 1 (.slot 0) (.const .snil)))]) .skip)⟩⟩
def b_frEntries : BF := ⟨24, [0, 2, 3, 4, 5, 6, 22], (.seq (.reg [.mk none (.slot 1) (.mov (.mv (.const .snil))), .mk none (.slot 2) (.mov (.mv (.const (.int .i64 0))))]) (.seq (.reg [.mk none (.env 7) (.mov (.mv (.slot 0))), .mk none (.env 8) (.call 105 [(.env 7)]), .mk none (.slot 3) (.mov (.mv (.env 8)))]) (.seq (.reg [.mk none (.env 10) (.mov (.mv (.slot 3))), .mk none (.env 11) (.call 76 [(.env 10)]), .mk none (.env 9) (.mov (.mv (.env 11))), .mk none (.env 12) (.mov (.ext 0 (.env 9))), .mk none (.env 13) (.mov (.ext 1 (.env 9))), .mk none (.slot 4) (.mov (.mv (.env 12))), .mk none (.slot 5) (.mov (.mv (.env 13)))]) (.seq (.seq (.reg [.mk none (.env 14) (.mov (.mv (.slot 5))), .mk none (.env 15) (.mov (.bin .neq .no (.env 14) (.const (.int .i64 0)))), .mk none (.env 16) (.mov (.mv (.env 15))), .mk (some ((.env 16), false)) (.env 17) (.mov (.mv (.slot 4))), .mk (some ((.env 16), false)) (.env 18) (.mov (.b2s (.env 17))), .mk (some ((.env 16), false)) (.env 19) (.mov (.mv (.slot 0))), .mk (some ((.env 16), false)) (.env 20) (.mov (.b2s (.env 19))), .mk (some ((.env 16), false)) (.env 21) (.mov (.bin .neq .no (.env 18) (.env 20))), .mk none (.slot 6) (.mov (.pick (.env 16) (.const (.bool true)) (.env 21)))]) (.cond (.slot 6) (.seq (.reg [.mk none (.slot 1) (.mov (.mv (.const .snil))), .mk none (.slot 2) (.mov (.mv (.const (.int .i64 12))))]) .ret) .skip)) (.seq (.reg [.mk none (.env 23) (.mov (.mv (.slot 3))), .mk none (.slot 1) (.mov (.mv (.env 23))), .mk none (.slot 2) (.mov (.mv (.const (.int .i64 0))))]) .ret))))), [.slot (.slot 1), .slot (.slot 2)]⟩
section
variable {X : Type}
structure dgQ (t2 : List AV) (res : List Rs) (Q : AV → Hp X → Prop) (r : R X) : Prop where
  out : match r with
  | .norm _ h => ∃ l, resV t2 h res = some l ∧ Q (packA l) h
  | .ret _ h => ∃ l, resV t2 h res = some l ∧ Q (packA l) h
  | _ => False
theorem dg_norm {t2 t : List AV} {h : Hp X} {res : List Rs} {Q : AV → Hp X → Prop} {l : List AV} (hl : resV t2 h res = some l) (q : Q (packA l) h) : dgQ t2 res Q (.norm t h) := ⟨⟨l, hl, q⟩⟩
structure dfQ (D : Dp X) (G : DG) (cs : List AV) (res : List Rs) (Q : AV → Hp X → Prop) (r : R X) : Prop where
  out : ∃ pan t2 h2, howR r = some (pan, t2, h2) ∧ WB D G.body (putT G.d1 (.bool pan) (putT G.d0 .bot (G.keep.map fun d => getS cs d))) h2 (dgQ t2 res Q)
variable {D : Dp X} {G : DG} {cs : List AV} {res : List Rs} {Q : AV → Hp X → Prop} {t : List AV} {h : Hp X}
theorem df_ret (H : WB D G.body (putT G.d1 (.bool false) (putT G.d0 .bot (G.keep.map fun d => getS cs d))) h (dgQ t res Q)) : dfQ D G cs res Q (.ret t h) := ⟨⟨false, t, h, rfl, H⟩⟩
theorem df_pan {v : AV} (hv : isI v) (H : WB D G.body (putT G.d1 (.bool true) (putT G.d0 .bot (G.keep.map fun d => getS cs d))) h (dgQ t res Q)) : dfQ D G cs res Q (.panic v t h) := by
  obtain ⟨ty, x, rfl⟩ := hv
  exact ⟨⟨true, t, h, rfl, H⟩⟩
end
theorem wf_df {X : Type} {E : Nat → Option (Ent X)} (hE : ∀ f e, E f = some e → e.plain) {f : Nat} {b : DF} (hf : E f = some (.df b)) {args : List AV} {h : Hp X} {Q : AV → Hp X → Prop} (hl : Nat.ble args.length b.nt = true) {a c : BC} {m : Mv} {d : Ds} {x : Od} (hb : b.body = .right a (.left (.here m d x) c))
    {t1 : List AV} {h1 : Hp X} {v : AV} {cs : List AV} (H1 : WB (lim E) a (b.keep.map fun d => getS args d) h fun r => r = .norm t1 h1) (hm : m.ev [] t1 h1 = some v) (hx : x.ev (putE d v []) (putT d v t1) = .func b.G.g cs) (hc : Nat.ble cs.length b.G.nt = true)
    (H2 : WB (lim E) c (putT d v t1) h1 (dfQ (lim E) b.G cs b.res Q)) : WF (lim E) f args h Q := by
  obtain ⟨r1, g1, rfl⟩ := H1.out
  obtain ⟨r2, g2, q2⟩ := H2.out
  obtain ⟨pan, t2, h2, e2, H3⟩ := q2.out
  obtain ⟨r3, g3, q3⟩ := H3.out
  obtain ⟨n1, m1⟩ := g1.le
  obtain ⟨n2, m2⟩ := g2.le
  obtain ⟨n3, m3⟩ := g3.le
  have key : ∀ N, n1 ≤ N → n2 ≤ N → n3 ≤ N → ∃ l h3, b.run N (lim E) args h = .ret (packA l) h3 ∧ Q (packA l) h3 := fun N k1 k2 k3 => by
    have eb : b.body.run (fun b t h => b.run (lim E) (drR (lim E)) N t h) (b.keep.map fun d => getS args d) h = some (.func b.G.g cs, r2) := by
      rw [hb]
      show (match a.run (lim E) (drR (lim E)) N (b.keep.map fun d => getS args d) h with | .norm t' h' => BD.run (fun b t h => b.run (lim E) (drR (lim E)) N t h) (.left (.here m d x) c) t' h' | _ => none) = _
      rw [m1 N k1]
      show (match (match m.ev [] t1 h1 with | some v => some (x.ev (putE d v []) (putT d v t1), R.norm (putT d v t1) h1) | none => none) with | some (f, r) => some (f, seqR r (fun t h => c.run (lim E) (drR (lim E)) N t h)) | none => none) = _
      rw [hm]
      simp only [hx]
      show some (_, c.run (lim E) (drR (lim E)) N (putT d v t1) h1) = _
      rw [m2 N k2]
    have e0 : b.run N (lim E) args h = endD (fun b t h => b.run (lim E) (drR (lim E)) N t h) b (some (.func b.G.g cs, r2)) := by
      show (bif Nat.ble args.length b.nt then endD (fun b t h => b.run (lim E) (drR (lim E)) N t h) b (b.body.run (fun b t h => b.run (lim E) (drR (lim E)) N t h) (b.keep.map fun d => getS args d) h) else .bad) = _
      rw [hl, eb]
      rfl
    have eg : ∀ h3, (r3 = .norm (match r3 with | .norm t _ => t | _ => []) h3 ∨ r3 = .ret (match r3 with | .ret t _ => t | _ => []) h3) → b.G.run (fun b t h => b.run (lim E) (drR (lim E)) N t h) pan cs h2 = some h3 := fun h3 hr => by
      unfold DG.run
      rw [hc]
      simp only [cond_true]
      rw [m3 N k3]
      rcases hr with hr | hr <;> rw [hr]
    have fin : ∀ h3 l, b.G.run (fun b t h => b.run (lim E) (drR (lim E)) N t h) pan cs h2 = some h3 → resV t2 h3 b.res = some l → b.run N (lim E) args h = .ret (packA l) h3 := fun h3 l k1 k2 => by
      rw [e0]
      unfold endD
      simp only [Nat.beq_refl, cond_true, e2, k1, k2]
    cases r3 with
    | norm t3 h3 => obtain ⟨l, q4, q5⟩ := q3.out; exact ⟨l, h3, fin h3 l (eg h3 (.inl rfl)) q4, q5⟩
    | ret t3 h3 => obtain ⟨l, q4, q5⟩ := q3.out; exact ⟨l, h3, fin h3 l (eg h3 (.inr rfl)) q4, q5⟩
    | _ => exact q3.out.elim
  obtain ⟨l, h3, k1, k2⟩ := key (max n1 (max n2 n3)) (by omega) (by omega) (by omega)
  exact ⟨⟨_, _, (lim_df hE hf (N := max n1 (max n2 n3)) (by rw [k1]; intro q; cases q)).trans k1, k2⟩⟩
section
variable {X : Type} {D : Dp X}
structure WDX (D : Dp X) (l : Dr) (past : List (Pa X)) (e : En) (t : List AV) (h : Hp X) (t0 : List AV) (Q : R X → Prop) : Prop where
  out : ∃ r, drGo D l past e t h = r ∧ r ≠ .bad ∧ Q (panR t0 r)
variable {l : Dr} {past : List (Pa X)} {e : En} {t : List AV} {h : Hp X} {t0 : List AV} {Q : R X → Prop}
theorem wbx_dreg (H : WDX D l [] [] t h (voidT l t) Q) : WB D (.dreg l) t h Q := by
  obtain ⟨r, h1, h2, h3⟩ := H.out
  refine ⟨⟨_, goes_dreg (r := panR (voidT l t) r) (fun e => h2 (by cases r <;> simp_all [panR])) (by unfold drR; rw [h1]), h3⟩⟩
theorem WDX.of (H : WD D l past e t h Q) : WDX D l past e t h t0 Q := by
  obtain ⟨t', h', h1, h2⟩ := H.out
  exact ⟨⟨_, h1, (fun e => by cases e), h2⟩⟩
theorem wdx_x {k : Nat} {m : Mv} {v : AV} (hm : m.ev e t h = some v) (H : WDX D l (past ++ [.mov m e t v]) ((k, v) :: e) t h t0 Q) : WDX D ((.mk none (.env k) (.mov m), []) :: l) past e t h t0 Q := by
  obtain ⟨r, h1, h2⟩ := H.out
  refine ⟨⟨r, ?_, h2⟩⟩
  simp only [drGo, gdv, St1.g, St1.o, St1.d, Op1.run, hm, paOf, chkAll, cond_true]
  exact h1
theorem wdx_call {k f : Nat} {xs : List Od} {chk : List Nat} {args : List AV} (ha : (xs.map fun x => x.ev e t) = args) (H : WC D f args h (fun v h' => Chk h' past chk ∧ WDX D l (past ++ [.skip]) ((k, v) :: e) t h' t0 Q) (fun v h' => Q (.panic v t0 h'))) : WDX D ((.mk none (.env k) (.call f xs), chk) :: l) past e t h t0 Q := by
  subst ha
  rcases H.out with ⟨v, h', e1, hc, q⟩ | ⟨v, h', e1, q⟩
  · obtain ⟨r, h1, h2⟩ := q.out
    refine ⟨⟨r, ?_, h2⟩⟩
    simp only [drGo, gdv, St1.g, St1.o, St1.d, Op1.run, e1, paOf, hc.out, cond_true]
    exact h1
  · refine ⟨⟨.panic v t h', ?_, (fun e => by cases e), q⟩⟩
    simp only [drGo, gdv, St1.g, St1.o, St1.d, Op1.run, e1]
end
def parseN : Nat → List UInt8 → Option (List EM)
  | 0, _ => some []
  | k + 1, bs => match parseE bs with
    | none => none
    | some (gone, key, val, rest) => (parseN k rest).map fun l => ⟨key, val, gone⟩ :: l
def readL (bs : List UInt8) : Option (List EM) := if bs.length < 2 then none else parseN (be (bs.take 2)) (bs.drop 2)
end Am
end Go.Proofs.Ythgcdoahoechhaa
namespace Go.Proofs.Ythgcdoahoechhaa
namespace Am
open Go.RowKit
set_option maxRecDepth 100000
section
variable {X : Type} {h h' : Hp X}
structure EntsF (h : Hp X) (v : AV) (l : List EM) (F : Nat → Prop) : Prop where
  out : ∃ tri : List T3, RS h 3 v l.length (tri.flatMap f3) ∧ tri.length = l.length ∧ (∀ (i : Nat) q e, tri[i]? = some q → l[i]? = some e → EntV h q e) ∧ (∀ k, blk v k → F k) ∧ ∀ q ∈ tri, ∀ k, blk q.1 k ∨ blk q.2.1 k → F k
theorem EntV.keep {S : Nat → Prop} {q : T3} {e : EM} (a : EntV h q e) (k : Keep S h h') (hs : ∀ k, blk q.1 k ∨ blk q.2.1 k → ¬ S k) : EntV h' q e := ⟨a.gone, a.key.keep k (fun j hj => hs j (.inl hj)), a.val.keep k (fun j hj => hs j (.inr hj))⟩
theorem EntsF.keep {S F : Nat → Prop} {v : AV} {l : List EM} (a : EntsF h v l F) (k : Keep S h h') (hs : ∀ k, F k → ¬ S k) : EntsF h' v l F := by
  obtain ⟨tri, h1, h2, h3, h4, h5⟩ := a.out
  exact ⟨tri, h1.keep k (fun j hj => hs j (h4 j hj)), h2, fun i q e q1 q2 => (h3 i q e q1 q2).keep k (fun j hj => hs j (h5 q (List.mem_of_getElem? q1) j hj)), h4, h5⟩
theorem EntsF.up {F : Nat → Prop} {v : AV} {l : List EM} (a : EntsF h v l F) (k : Keep NoB h h') : EntsF h' v l F := a.keep k (fun _ _ q => q)
theorem EntsF.on {F G : Nat → Prop} {v : AV} {l : List EM} (a : EntsF h v l F) (hs : ∀ k, F k → G k) : EntsF h v l G := by
  obtain ⟨tri, h1, h2, h3, h4, h5⟩ := a.out
  exact ⟨tri, h1, h2, h3, fun k q => hs k (h4 k q), fun q hq k hk => hs k (h5 q hq k hk)⟩
theorem EntsF.ents {F : Nat → Prop} {v : AV} {l : List EM} (a : EntsF h v l F) : Ents h v l := by
  obtain ⟨tri, h1, h2, h3, _⟩ := a.out
  exact ⟨tri, h1, h2, h3⟩
theorem EntsF.nil {F : Nat → Prop} : EntsF h .snil [] F := ⟨[], ⟨rfl, rfl⟩, rfl, fun i q e q1 => by simp at q1, fun k q => q.elim, fun q hq => by simp at hq⟩
end
section
variable {X : Type} {e : En} {t : List AV} {h : Hp X}
theorem ef_bsN {x : Od} {a b : AV} {c : Bool} (hx : x.ev e t = .agg [a, b, .bool c]) (ha : a.one = true) (hb : b.one = true) : (Ef.bslice 3 1 [.snil, .snil, .bool false] [(0, 3, x)]).ev e t h = some (.slice 3 h.n 0 1 (some 1), h.push (.rw [a, b, .bool c])) := by
  have ho : allOne [a, b, .bool c] = true := one_all3 ha hb rfl
  simp only [Ef.ev, List.map, hx]
  show (bif allOne [a, b, .bool c] && Nat.beq 3 (1 * 3) && Nat.ble 1 maxLen then some (AV.slice 3 h.n 0 1 (some 1), h.push (.rw [a, b, .bool c])) else none) = _
  rw [ho]
  rfl
theorem v_bld1 {x : Od} {a z0 : AV} (hx : x.ev e t = a) (ha : cellsOf a = some [a]) : (Mv.bld [z0] [(0, 1, x)]).ev e t h = some (.agg [a]) := by
  simp only [Mv.ev, List.map, hx, fillA, ha]
  rfl
theorem parseE_len {bs k v r : List UInt8} {g : Bool} (H : parseE bs = some (g, k, v, r)) : r.length ≤ bs.length := by
  unfold parseE at H
  repeat' split at H
  all_goals first | (cases H; done) | skip
  all_goals
    simp only [Option.some.injEq, Prod.mk.injEq] at H
    obtain ⟨_, _, _, rfl⟩ := H
    simp only [List.length_drop]
    omega
theorem parseN_some {n : Nat} {bs k v r : List UInt8} {g : Bool} (H : parseE bs = some (g, k, v, r)) : parseN (n + 1) bs = (parseN n r).map fun l => ⟨k, v, g⟩ :: l := by
  conv => lhs; unfold parseN
  rw [H]
theorem res_cell1 {g : Nat} {x : Od} {v : AV} {l : List AV} (hb : Bx h g (v :: l)) (hx : x.ev [] t = .ptr g 0) : resV t h [.cell1 x] = some [v] := by
  unfold resV
  rw [show (Rs.cell1 x).ev t h = some v from v_bx hb hx rfl]
  rfl
end
structure WaRd {X : Type} (E : Nat → Option (Ent X)) : Prop where
  read : E 105 = some (.df b_frRead)
  entry : E 118 = some (.bc b_frEntry)
  number : E 117 = some (.bc b_frNumber)
  take : E 126 = some (.bc b_frTake)
  clone : E 85 = some (.bc b_clone)
  get : E 112 = some (.bc b_octGet)
section
variable {X : Type} {E : Nat → Option (Ent X)}
def FRdPost (h : Hp X) (bs : List UInt8) (r : AV) (h' : Hp X) : Prop := Keep NoB h h' ∧ EntsF h' r ((readL bs).getD []) (fun k => h.n ≤ k)
theorem be2_lt (bs : List UInt8) : be (bs.take 2) < 65536 := by
  have h1 := be_lt (bs.take 2)
  have h2 : (bs.take 2).length ≤ 2 := List.length_take_le ..
  have h3 : 256 ^ (bs.take 2).length ≤ 256 ^ 2 := Nat.pow_le_pow_right (by decide) h2
  omega
set_option maxHeartbeats 8000000 in
theorem fread_ok (hE : ∀ f e, E f = some e → e.plain) (T : WaRd E) {h : Hp X} {v : AV} {bs : List UInt8} (hr : RS h 1 v bs.length (bs.map ub)) (hv : v ≠ .semp) (hb : bs.length ≤ 1099511627776) :
    WF (lim E) 105 [v] h fun r h' => FRdPost h bs r h' := by
  have gone : ∀ {hh : Hp X} {lv w : AV} {t : List AV}, Bx hh h.n [lv] → Keep NoB h hh → readL bs = none → isI w → getS t 1 = .ptr h.n 0 → dfQ (lim E) b_frRead.G [.ptr h.n 0] b_frRead.res (fun r h' => FRdPost h bs r h') (.panic w t hh) := fun {hh lv w t} bx K hn hw ht => by
    refine df_pan hw ?_
    show WB (lim E) (.cond (.slot 1) (.reg [.mk none .none (.eff (.store 1 (.slot 0) (.const .snil)))]) .skip) [.ptr h.n 0, .bool true] _ _
    repeat first|(refine BG ?_;first|(refine BH ?_;first|(refine BI ?_;refine BM ?_)|(refine BJ ?_;first|refine BN ?_|refine BO ?_)|refine BP ?_)|(refine BK ?_;first|refine BS rfl rfl ?_|refine BT rfl rfl ?_|refine BU rfl ?_)|(refine BL ?_;first|refine BW (ef_bx bx rfl rfl ⟨rfl, rfl⟩ (Nat.zero_lt_succ _)) ?_|refine BQ ?_)|(refine BR ?_;try simp only [setS]))|refine AA ?_|refine AC ?_|refine AD ?_|refine AE ?_|refine AF rfl rfl ?_|refine AG rfl rfl ?_|refine AH ?_|refine AI ?_|refine AJ ?_|refine AK ?_|refine AL ?_|refine AM ?_|refine AN ?_|refine AO ?_|refine AP ?_|refine AQ rfl ?_|refine AR ?_|refine AS ?_|refine AT rfl ?_|refine AU rfl ?_|refine AW ?_|refine AX ?_|refine AY ?_|refine AZ ?_|refine BA rfl ?_|refine BB rfl ?_|refine BE ?_
    refine dg_norm (l := [.snil]) (res_cell1 (l := []) bx.put ht) ⟨K.own (Keep.put (S := OneB h.n) _ _ _ rfl) (fun k q => by have : k = h.n := q; omega), ?_⟩
    rw [hn]
    exact EntsF.nil
  refine wf_df hE T.read rfl (m := _) (d := _) (x := _) (a := _) (c := _) rfl (t1 := [v, .ptr h.n 0, .bot, .bot, .bot]) (h1 := h.push (.rw [.snil])) (v := .func 116 [.ptr h.n 0]) (cs := [.ptr h.n 0]) ?_ rfl rfl rfl ?_
  · simp only [b_frRead, List.map, getS]
    repeat first|(refine BG ?_;first|(refine BH ?_;first|(refine BI ?_;refine BM ?_)|(refine BJ ?_;first|refine BN ?_|refine BO ?_)|refine BP ?_)|(refine BK ?_;first|refine BS rfl rfl ?_|refine BT rfl rfl ?_|refine BU rfl ?_)|(refine BL ?_;first|refine BQ ?_)|(refine BR ?_;try simp only [setS]))|refine AA ?_|refine AC ?_|refine AD ?_|refine AE ?_|refine AF rfl rfl ?_|refine AG rfl rfl ?_|refine AH ?_|refine AI ?_|refine AJ ?_|refine AK ?_|refine AL ?_|refine AM ?_|refine AN ?_|refine AO ?_|refine AP ?_|refine AQ rfl ?_|refine AR ?_|refine AS ?_|refine AT rfl ?_|refine AU rfl ?_|refine AW ?_|refine AX ?_|refine AY ?_|refine AZ ?_|refine BA rfl ?_|refine BB rfl ?_|refine BE ?_
  show WB (lim E) _ [v, .ptr h.n 0, .bot, .bot, .bot] _ _
  have vone := hr.one
  have hlt := hr.lt
  have b1 : Bx (h.push (.rw [.snil])) h.n [AV.snil] := bx_push
  have R1 : Rdr ((h.push (.rw [.snil])).push (.rw [v])) (h.n + 1) h.n bs := ⟨Nat.lt_succ_self _, v, Hp.push_self _ _, (hr.up (Keep.push _ _ _)).up (Keep.push _ _ _), hv, fun k hk => ⟨by have := hlt k hk; omega, hlt k hk⟩⟩
  have b2 := b1.up (Keep.push NoB _ (.rw [v]))
  have hall : allOne [v] = true := by
    have := vone.2
    unfold allOne
    cases v <;> first | (cases this; done) | rfl
  repeat first|(refine BG ?_;first|(refine BH ?_;first|(refine BI ?_;refine BM ?_)|(refine BJ ?_;first|refine BN ?_|refine BO ?_)|refine BV (v_bld1 rfl vone.1) ?_|refine BP ?_)|(refine BK ?_;first|refine BS rfl rfl ?_|refine BT rfl rfl ?_|refine BU rfl ?_)|(refine BL ?_;first|refine BW (ef_box rfl hall) ?_|refine BQ ?_)|(refine BR ?_;try simp only [setS]))|refine AA ?_|refine AC ?_|refine AD ?_|refine AE ?_|refine AF rfl rfl ?_|refine AG rfl rfl ?_|refine AH ?_|refine AI ?_|refine AJ ?_|refine AK ?_|refine AL ?_|refine AM ?_|refine AN ?_|refine AO ?_|refine AP ?_|refine AQ rfl ?_|refine AR ?_|refine AS ?_|refine AT rfl ?_|refine AU rfl ?_|refine AW ?_|refine AX ?_|refine AY ?_|refine AZ ?_|refine BA rfl ?_|refine BB rfl ?_|refine BE ?_
  refine wr_callx_e rfl ((number_x hE T.number T.take T.clone T.get R1 (n := 2) (by omega) hb).mono (fun r h3 ⟨n3, r3, k3, e3⟩ => ?_) (fun w h3 ⟨n3, i3, e3⟩ => ?_))
  case refine_2 =>
    repeat first|(refine BG ?_;first|(refine BH ?_;first|(refine BI ?_;refine BM ?_)|(refine BJ ?_;first|refine BN ?_|refine BO ?_)|refine BP ?_)|(refine BK ?_;first|refine BS rfl rfl ?_|refine BT rfl rfl ?_|refine BU rfl ?_)|(refine BL ?_;first|refine BQ ?_)|(refine BR ?_;try simp only [setS]))|refine AA ?_|refine AC ?_|refine AD ?_|refine AE ?_|refine AF rfl rfl ?_|refine AG rfl rfl ?_|refine AH ?_|refine AI ?_|refine AJ ?_|refine AK ?_|refine AL ?_|refine AM ?_|refine AN ?_|refine AO ?_|refine AP ?_|refine AQ rfl ?_|refine AR ?_|refine AS ?_|refine AT rfl ?_|refine AU rfl ?_|refine AW ?_|refine AX ?_|refine AY ?_|refine AZ ?_|refine BA rfl ?_|refine BB rfl ?_|refine BE ?_
    subst e3
    exact gone b2 ((Keep.push _ _ _).and (Keep.push _ _ _)) (by unfold readL; rw [if_pos n3]) i3 rfl
  subst e3
  have hlt2 := be2_lt bs
  have b3 := b2.keep k3 (fun q => by have q : h.n = h.n + 1 := q; omega)
  have K3 : Keep NoB h h3 := (((Keep.push NoB h (.rw [.snil])).and (Keep.push _ _ (.rw [v]))).own k3 (fun k q => by have q : k = h.n + 1 := q; omega))
  have n3h := K3.n
  have n3k := k3.n
  simp only [push_n] at n3k
  repeat first|(refine BG ?_;first|(refine BH ?_;first|(refine BI ?_;refine BM ?_)|(refine BJ ?_;first|refine BN ?_|refine BO ?_)|refine BP ?_)|(refine BK ?_;first|refine BS rfl rfl ?_|refine BT rfl rfl ?_|refine BU rfl ?_)|(refine BL ?_;first|refine BQ ?_)|(refine BR ?_;try simp only [setS]))|refine AA ?_|refine AC ?_|refine AD ?_|refine AE ?_|refine AF rfl rfl ?_|refine AG rfl rfl ?_|refine AH ?_|refine AI ?_|refine AJ ?_|refine AK ?_|refine AL ?_|refine AM ?_|refine AN ?_|refine AO ?_|refine AP ?_|refine AQ rfl ?_|refine AR ?_|refine AS ?_|refine AT rfl ?_|refine AU rfl ?_|refine AW ?_|refine AX ?_|refine AY ?_|refine AZ ?_|refine BA rfl ?_|refine BB rfl ?_|refine BE ?_
  refine wb_loop (fun n t hh => ∃ (done : List EM) (rest : List UInt8) (lv s4 : AV) (tri : List T3), done.length + n ≤ 65535 ∧ Keep NoB h hh ∧ h.n + 2 ≤ hh.n ∧ Bx hh h.n [lv] ∧ Rdr hh (h.n + 1) h.n rest ∧ rest.length ≤ 1099511627776 ∧
    OS hh 3 lv done.length (tri.flatMap f3) ∧ tri.length = done.length ∧ (∀ (i : Nat) q e, tri[i]? = some q → done[i]? = some e → EntV hh q e) ∧ (∀ k, blk lv k → h.n + 2 ≤ k) ∧ (∀ q ∈ tri, ∀ k, blk q.1 k ∨ blk q.2.1 k → h.n + 2 ≤ k ∧ k < hh.n ∧ ¬ blk lv k) ∧
    readL bs = (parseN n rest).map (done ++ ·) ∧ t = [v, .ptr h.n 0, .ptr (h.n + 1) 0, .int .i64 n, s4]) ?_ (be (bs.take 2)) _ _ ⟨[], bs.drop 2, .snil, _, [], by simp; omega, K3, n3k, b3, r3, by rw [List.length_drop]; omega, ⟨rfl, rfl⟩, rfl, by simp, fun k q => q.elim, by simp, ?_, rfl⟩
  rotate_left
  · unfold readL
    rw [if_neg (by omega)]
    simp
  rintro n t hh ⟨done, rest, lv, s4, tri, hdn, K, hn2, bx, rd, hrl, ol, htl, hev, lo, hfr, hp, rfl⟩
  by_cases hn : 0 < n
  · obtain ⟨k, rfl⟩ : ∃ k, n = k + 1 := ⟨n - 1, by omega⟩
    repeat first|(refine BG ?_;first|(refine BH ?_;first|(refine BI ?_;refine BM ?_)|(refine BJ ?_;first|refine BN ?_|refine BO ?_)|refine BP ?_)|(refine BK ?_;first|refine BS rfl rfl ?_|refine BT rfl rfl ?_|refine BU rfl ?_)|(refine BL ?_;first|refine BQ ?_)|(refine BR ?_;try simp only [setS]))|refine AA ?_|refine AC ?_|refine AD ?_|refine AF rfl rfl ?_|refine AG rfl rfl ?_|refine AH ?_|refine AI ?_|refine AJ ?_|refine AK ?_|refine AL ?_|refine AM ?_|refine AN ?_|refine AO ?_|refine AP ?_|refine AQ rfl ?_|refine AR ?_|refine AS ?_|refine AT rfl ?_|refine AU rfl ?_|refine AW ?_|refine AX ?_|refine AY ?_|refine AZ ?_|refine BA rfl ?_|refine BB rfl ?_|refine BE ?_
    refine wbx_dreg ?_
    refine wdx_x (v_bx bx rfl rfl) ?_
    refine wdx_x rfl ?_
    refine wdx_call rfl ((entry_x hE T.entry T.number T.take T.clone T.get rd (by omega) hrl).mono (fun r h4 ⟨gn, key, val, rst, cells, hpe, hre, rd4, k4, ec⟩ => ?_) (fun w h4 ⟨hpn, iw, k4⟩ => ?_))
    rotate_left
    · have b4 := bx.keep k4 (fun q => by have q : h.n = h.n + 1 := q; omega)
      repeat first|(refine BG ?_;first|(refine BH ?_;first|(refine BI ?_;refine BM ?_)|(refine BJ ?_;first|refine BN ?_|refine BO ?_)|refine BP ?_)|(refine BK ?_;first|refine BS rfl rfl ?_|refine BT rfl rfl ?_|refine BU rfl ?_)|(refine BL ?_;first|refine BQ ?_)|(refine BR ?_;try simp only [setS]))|refine AA ?_|refine AC ?_|refine AD ?_|refine AE ?_|refine AF rfl rfl ?_|refine AG rfl rfl ?_|refine AH ?_|refine AI ?_|refine AJ ?_|refine AK ?_|refine AL ?_|refine AM ?_|refine AN ?_|refine AO ?_|refine AP ?_|refine AQ rfl ?_|refine AR ?_|refine AS ?_|refine AT rfl ?_|refine AU rfl ?_|refine AW ?_|refine AX ?_|refine AY ?_|refine AZ ?_|refine BA rfl ?_|refine BB rfl ?_|refine BE ?_
      refine gone b4 (K.own k4 (fun k q => by have q : k = h.n + 1 := q; omega)) ?_ iw rfl
      rw [hp]
      unfold parseN
      rw [hpn]
      rfl
    obtain ⟨kv, vv, rfl, okv, ovv, bkv, bvv⟩ := ec.ok
    subst hre
    have lvn := ol.lt
    have n4 := k4.n
    have b4 := bx.keep k4 (fun q => by have q : h.n = h.n + 1 := q; omega)
    have ol4 := ol.keep k4 (fun k q1 q2 => by have := lo k q1; have q2 : k = h.n + 1 := q2; omega)
    refine ⟨chk_mov rfl (v_bx b4 rfl rfl) chk_nil, ?_⟩
    refine WDX.of ?_
    have kp : Keep NoB h4 (h4.push (.rw [kv, vv, .bool gn])) := Keep.push _ _ _
    have b5 := b4.up kp
    refine wd_alc (cs := [kv, vv, .bool gn]) (ef_bsN rfl okv.one.2 ovv.one.2) (chk_mov rfl (v_bx b5 rfl rfl) chk_nil) ?_
    have hll := ol.len
    refine wd_app rfl rfl (ol4.up kp) (by decide) (rs_push (n := 1) (z := 3) rfl) (by omega) (by have : (maxLen : Nat) = 9223372036854775807 := rfl; omega) fun l6 h6 a1 a2 a3 => ?_
    have b6 := b5.keep a2 (fun q => by have := lo _ q; omega)
    refine ⟨chk_nil, ?_⟩
    refine wd_ef (ef_bx b6 rfl rfl a1.one (Nat.zero_lt_succ _)) chk_nil ?_
    repeat first|(refine BG ?_;first|(refine BH ?_;first|(refine BI ?_;refine BM ?_)|(refine BJ ?_;first|refine BN ?_|refine BO ?_)|refine BP ?_)|(refine BK ?_;first|refine BS rfl rfl ?_|refine BT rfl rfl ?_|refine BU rfl ?_)|(refine BL ?_;first|refine BQ ?_)|(refine BR ?_;try simp only [setS]))|(refine BX ?_;first|refine BY rfl ?_|(refine BZ ?_;refine CA ?_)|refine CC ?_|(refine CD ?_;try simp only [setS]))|refine AA ?_|refine AC ?_|refine AD ?_|refine AE ?_|refine AF rfl rfl ?_|refine AG rfl rfl ?_|refine AH ?_|refine AI ?_|refine AJ ?_|refine AK ?_|refine AL ?_|refine AM ?_|refine AN ?_|refine AO ?_|refine AP ?_|refine AQ rfl ?_|refine AR ?_|refine AS ?_|refine AT rfl ?_|refine AU rfl ?_|refine AW ?_|refine AX ?_|refine AY ?_|refine AZ ?_|refine BA rfl ?_|refine BB rfl ?_|refine BE ?_
    have kq : Keep (OneB h.n) h6 (h6.put h.n (.rw [l6])) := Keep.put _ _ _ rfl
    have n6 := a2.n
    simp only [push_n] at n6
    have lo6 : ∀ k, blk l6 k → h.n + 2 ≤ k := fun k q => by
      rcases a3 k q with q | q
      · exact lo k q
      · simp only [push_n] at q; omega
    have evk : ∀ {q : T3} {e : EM}, EntV h4 q e → (∀ k, blk q.1 k ∨ blk q.2.1 k → h.n + 2 ≤ k ∧ ¬ blk lv k) → EntV (h6.put h.n (.rw [l6])) q e := fun {q e} a hs => by
      refine (((a.up kp).keep a2 (fun k q1 q2 => (hs k q1).2 q2)).keep kq (fun k q1 q2 => ?_))
      have := (hs k q1).1
      have q2 : k = h.n := q2
      omega
    have hfk : ∀ k, blk kv k ∨ blk vv k → h.n + 2 ≤ k ∧ k < h6.n ∧ ¬ blk l6 k := fun k hk => by
      have h1 : hh.n ≤ k := by rcases hk with hk | hk; exact bkv k hk; exact bvv k hk
      have h2 : k < h4.n := by rcases hk with hk | hk; exact okv.lt k hk; exact ovv.lt k hk
      refine ⟨by omega, by omega, fun q => ?_⟩
      rcases a3 k q with q | q
      · have := lvn k q; omega
      · simp only [push_n] at q; omega
    rw [show (((k + 1 : Nat) : Int) - 1) = (k : Int) by omega]
    refine round_norm k (Nat.lt_succ_self _) ⟨done ++ [⟨key, val, gn⟩], rst, l6, _, tri ++ [(kv, vv, gn)], by rw [List.length_append, List.length_singleton]; omega, (((K.own k4 (fun k q => by have q : k = h.n + 1 := q; omega)).and kp).own a2 (fun k q => by have := lo k q; omega)).own kq (fun k q => by have q : k = h.n := q; omega), by simp only [put_n]; omega, b6.put, ?_, ?_, ?_, by simp [htl], ?_, lo6, ?_, ?_, rfl⟩
    · exact ((rd4.push _).keep a2 (fun bv h1 j h2 h3 => by
        obtain ⟨_, bv', g1, _, _, g4⟩ := rd4.push (.rw [kv, vv, .bool gn])
        rw [h1] at g1
        cases g1
        have := g4 j h2
        have := lo j h3
        omega) (fun q => by have := lo _ q; omega)).put _ (by omega) (Nat.le_refl _)
    · have := parseE_len hpe
      omega
    · have := a1.keep kq (fun k q1 q2 => by have := lo6 k q1; have q2 : k = h.n := q2; omega)
      rw [List.length_append, List.flatMap_append]
      exact this
    · intro i q e h1 h2
      by_cases hi : i < done.length
      · rw [List.getElem?_append_left (by omega)] at h1
        rw [List.getElem?_append_left hi] at h2
        refine evk ((hev i q e h1 h2).keep k4 (fun k q1 q2 => ?_)) (fun k hk => ?_)
        · have := (hfr q (List.mem_of_getElem? h1) k q1).1
          have q2 : k = h.n + 1 := q2
          omega
        · exact ⟨(hfr q (List.mem_of_getElem? h1) k hk).1, (hfr q (List.mem_of_getElem? h1) k hk).2.2⟩
      · have h3 := (List.getElem?_eq_some_iff.1 h2).1
        rw [List.length_append, List.length_singleton] at h3
        have h4 : i = done.length := by omega
        subst h4
        rw [List.getElem?_append_right (Nat.le_refl _), Nat.sub_self] at h2
        rw [← htl, List.getElem?_append_right (Nat.le_refl _), Nat.sub_self] at h1
        simp at h1 h2
        subst h1 h2
        refine evk ⟨rfl, okv.rs, ovv.rs⟩ (fun k hk => ⟨(hfk k hk).1, fun q => ?_⟩)
        have := lvn k q
        have : hh.n ≤ k := by rcases hk with hk | hk; exact bkv k hk; exact bvv k hk
        omega
    · intro q hq k hk
      rcases List.mem_append.1 hq with hq | hq
      · have h1 := hfr q hq k hk
        refine ⟨h1.1, by simp only [put_n]; omega, fun q => ?_⟩
        rcases a3 k q with q | q
        · exact h1.2.2 q
        · simp only [push_n] at q; omega
      · simp at hq
        subst hq
        exact hfk k hk
    · rw [hp, parseN_some hpe]
      simp [Function.comp_def]
  · have hn0 : n = 0 := by omega
    subst hn0
    have ol1 := ol.one
    repeat first|(refine BG ?_;first|(refine BH ?_;first|(refine BI ?_;refine BM ?_)|(refine BJ ?_;first|refine BN ?_|refine BO ?_)|refine BV (v_bx bx rfl rfl) ?_|refine BP ?_)|(refine BK ?_;first|refine BS rfl rfl ?_|refine BT rfl rfl ?_|refine BU rfl ?_)|(refine BL ?_;first|refine BW (ef_bx bx rfl rfl ol1 (Nat.zero_lt_succ _)) ?_|refine BQ ?_)|(refine BR ?_;try simp only [setS]))|refine AA ?_|refine AC ?_|refine AD ?_|refine AE ?_|refine AF rfl rfl ?_|refine AG rfl rfl ?_|refine AH ?_|refine AI ?_|refine AJ ?_|refine AK ?_|refine AL ?_|refine AM ?_|refine AN ?_|refine AO ?_|refine AP ?_|refine AQ rfl ?_|refine AR ?_|refine AS ?_|refine AT rfl ?_|refine AU rfl ?_|refine AW ?_|refine AX ?_|refine AY ?_|refine AZ ?_|refine BA rfl ?_|refine BB rfl ?_|refine BE ?_
    refine df_ret ?_
    show WB (lim E) (.cond (.slot 1) (.reg [.mk none .none (.eff (.store 1 (.slot 0) (.const .snil)))]) .skip) [.ptr h.n 0, .bool false] _ _
    repeat first|(refine BG ?_;first|(refine BH ?_;first|(refine BI ?_;refine BM ?_)|(refine BJ ?_;first|refine BN ?_|refine BO ?_)|refine BP ?_)|(refine BK ?_;first|refine BS rfl rfl ?_|refine BT rfl rfl ?_|refine BU rfl ?_)|(refine BL ?_;first|refine BQ ?_)|(refine BR ?_;try simp only [setS]))|refine AA ?_|refine AC ?_|refine AD ?_|refine AE ?_|refine AF rfl rfl ?_|refine AG rfl rfl ?_|refine AH ?_|refine AI ?_|refine AJ ?_|refine AK ?_|refine AL ?_|refine AM ?_|refine AN ?_|refine AO ?_|refine AP ?_|refine AQ rfl ?_|refine AR ?_|refine AS ?_|refine AT rfl ?_|refine AU rfl ?_|refine AW ?_|refine AX ?_|refine AY ?_|refine AZ ?_|refine BA rfl ?_|refine BB rfl ?_|refine BE ?_
    have kq : Keep (OneB h.n) hh (hh.put h.n (.rw [lv])) := Keep.put _ _ _ rfl
    refine dg_norm (l := [lv]) (res_cell1 (l := []) bx.put rfl) ⟨K.own kq (fun k q => by have q : k = h.n := q; omega), ?_⟩
    have e1 : (readL bs).getD [] = done := by rw [hp]; unfold parseN; simp
    rw [e1]
    have ef : EntsF hh lv done (fun k => h.n + 2 ≤ k) := ⟨tri, ol.rs, htl, hev, lo, fun q hq k hk => (hfr q hq k hk).1⟩
    exact (ef.keep kq (fun k q1 q2 => by have q2 : k = h.n := q2; omega)).on (fun k q => by omega)
end
end Am
end Go.Proofs.Ythgcdoahoechhaa
namespace Go.Proofs.Ythgcdoahoechhaa
namespace Am
open Go.RowKit
set_option maxRecDepth 100000
def frE (bs : List UInt8) : Option (List EM) := if mayB ((readL bs).getD []) = true ∧ batB ((readL bs).getD []) = bs then some ((readL bs).getD []) else none
theorem parseN_len : ∀ (n : Nat) (bs : List UInt8) {l : List EM}, parseN n bs = some l → l.length = n
  | 0, bs, l, H => by simp [parseN] at H; subst H; rfl
  | n + 1, bs, l, H => by
    unfold parseN at H
    split at H
    · cases H
    · rename_i g k v r hp
      cases hq : parseN n r with
      | none => rw [hq] at H; cases H
      | some l' =>
        rw [hq] at H
        simp at H
        subst H
        rw [List.length_cons, parseN_len n r hq]
theorem readL_len (bs : List UInt8) : ((readL bs).getD []).length ≤ 65535 := by
  unfold readL
  split
  · simp
  · have := be2_lt bs
    cases h : parseN (be (bs.take 2)) (bs.drop 2) with
    | none => simp
    | some l => have := parseN_len _ _ h; simp only [Option.getD_some]; omega
section
variable {X : Type} {e : En} {t : List AV} {h : Hp X}
theorem v_sne_f {q : Eq} {x y : Od} {a b : List UInt8} (hx : x.ev e t = .str a) (hy : y.ev e t = .str b) (hab : a = b) : (Mv.bin .neq q x y).ev e t h = some (.bool false) := by
  rw [v_sneq hx hy, hab]; simp
theorem v_sne_t {q : Eq} {x y : Od} {a b : List UInt8} (hx : x.ev e t = .str a) (hy : y.ev e t = .str b) (hab : a ≠ b) : (Mv.bin .neq q x y).ev e t h = some (.bool true) := by
  rw [v_sneq hx hy, beq_false_of_ne hab]; rfl
end
structure WaN {X : Type} (E : Nat → Option (Ent X)) : Prop where
  entries : E 75 = some (.bc b_frEntries)
  rd : WaRd E
  bt : WaB E
section
variable {X : Type} {E : Nat → Option (Ent X)}
def EntPost (h : Hp X) (o : Option (List EM)) (r : AV) (h' : Hp X) : Prop := Keep NoB h h' ∧ match o with
  | some l => ∃ w, r = .tup [w, .int .i64 0] ∧ EntsF h' w l (fun k => h.n ≤ k)
  | none => r = .tup [.snil, .int .i64 12]
theorem frEntries_ok (hE : ∀ f e, E f = some e → e.plain) (T : WaN E) {h : Hp X} {v : AV} {bs : List UInt8} (hr : RS h 1 v bs.length (bs.map ub)) (hv : v ≠ .semp) (hb : bs.length ≤ 1099511627776) :
    WF (lim E) 75 [v] h fun r h' => EntPost h (frE bs) r h' := by
  refine wf_bc hE T.entries rfl ?_
  simp only [b_frEntries, List.map, getS]
  repeat first|(refine BG ?_;first|(refine BH ?_;first|(refine BI ?_;refine BM ?_)|(refine BJ ?_;first|refine BN ?_|refine BO ?_)|refine BP ?_)|(refine BK ?_;first|refine BS rfl rfl ?_|refine BT rfl rfl ?_|refine BU rfl ?_)|(refine BL ?_;first|refine BQ ?_)|(refine BR ?_;try simp only [setS]))|refine AA ?_|refine AC ?_|refine AD ?_|refine AE ?_|refine AF rfl rfl ?_|refine AG rfl rfl ?_|refine AH ?_|refine AI ?_|refine AJ ?_|refine AK ?_|refine AL ?_|refine AM ?_|refine AN ?_|refine AO ?_|refine AP ?_|refine AQ rfl ?_|refine AR ?_|refine AS ?_|refine AT rfl ?_|refine AU rfl ?_
  refine wr_call_e rfl ((fread_ok hE T.rd hr hv hb).mono fun w h1 ⟨k1, e1⟩ => ?_)
  have hll := readL_len bs
  unfold frE
  generalize (readL bs).getD [] = l at *
  have hr1 := hr.up k1
  repeat first|(refine BG ?_;first|(refine BH ?_;first|(refine BI ?_;refine BM ?_)|(refine BJ ?_;first|refine BN ?_|refine BO ?_)|refine BP ?_)|(refine BK ?_;first|refine BS rfl rfl ?_|refine BT rfl rfl ?_|refine BU rfl ?_)|(refine BL ?_;first|refine BQ ?_)|(refine BR ?_;try simp only [setS]))|refine AA ?_|refine AC ?_|refine AD ?_|refine AE ?_|refine AF rfl rfl ?_|refine AG rfl rfl ?_|refine AH ?_|refine AI ?_|refine AJ ?_|refine AK ?_|refine AL ?_|refine AM ?_|refine AN ?_|refine AO ?_|refine AP ?_|refine AQ rfl ?_|refine AR ?_|refine AS ?_|refine AT rfl ?_|refine AU rfl ?_
  refine wr_call_e rfl ((batch_ok hE T.bt e1.ents (by omega)).mono fun x h2 ⟨k2, e2⟩ => ?_)
  have K := k1.and k2
  have e3 := e1.up k2
  have hr2 := hr1.up k2
  cases hm : mayB l with
  | false =>
    rw [hm] at e2
    have e2 : x = .tup [.snil, .int .i64 3] := e2
    subst e2
    repeat first|(refine BG ?_;first|(refine BH ?_;first|(refine BI ?_;refine BM ?_)|(refine BJ ?_;first|refine BN ?_|refine BO ?_)|refine BP ?_)|(refine BK ?_;first|refine BS rfl rfl ?_|refine BT rfl rfl ?_|refine BU rfl ?_)|(refine BL ?_;first|refine BQ ?_)|(refine BR ?_;try simp only [setS]))|refine AA ?_|refine AC ?_|refine AD ?_|refine AE ?_|refine AF rfl rfl ?_|refine AG rfl rfl ?_|refine AH ?_|refine AI ?_|refine AJ ?_|refine AK ?_|refine AL ?_|refine AM ?_|refine AN ?_|refine AO ?_|refine AP ?_|refine AQ rfl ?_|refine AR ?_|refine AS ?_|refine AT rfl ?_|refine AU rfl ?_
    refine ⟨K, ?_⟩
    rw [if_neg (by simp)]
    rfl
  | true =>
    rw [hm] at e2
    obtain ⟨o, e2, o2, _⟩ : ∃ o, x = .tup [o, .int .i64 0] ∧ OS h2 1 o (batB l).length ((batB l).map ub) ∧ ∀ k, blk o k → h1.n ≤ k := e2
    subst e2
    by_cases hq : batB l = bs
    · repeat first|(refine BG ?_;first|(refine BH ?_;first|(refine BI ?_;refine BM ?_)|(refine BJ ?_;first|refine BN ?_|refine BO ?_)|refine BV (v_b2s rfl o2.rs) ?_|refine BV (v_b2s rfl hr2) ?_|refine BV (v_sne_f rfl rfl hq) ?_|refine BP ?_)|(refine BK ?_;first|refine BS rfl rfl ?_|refine BT rfl rfl ?_|refine BU rfl ?_)|(refine BL ?_;first|refine BQ ?_)|(refine BR ?_;try simp only [setS]))|refine AA ?_|refine AC ?_|refine AD ?_|refine AE ?_|refine AF rfl rfl ?_|refine AG rfl rfl ?_|refine AH ?_|refine AI ?_|refine AJ ?_|refine AK ?_|refine AL ?_|refine AM ?_|refine AN ?_|refine AO ?_|refine AP ?_|refine AQ rfl ?_|refine AR ?_|refine AS ?_|refine AT rfl ?_|refine AU rfl ?_
      refine ⟨K, ?_⟩
      rw [if_pos (by simp [hq])]
      exact ⟨w, rfl, e3⟩
    · repeat first|(refine BG ?_;first|(refine BH ?_;first|(refine BI ?_;refine BM ?_)|(refine BJ ?_;first|refine BN ?_|refine BO ?_)|refine BV (v_b2s rfl o2.rs) ?_|refine BV (v_b2s rfl hr2) ?_|refine BV (v_sne_t rfl rfl hq) ?_|refine BP ?_)|(refine BK ?_;first|refine BS rfl rfl ?_|refine BT rfl rfl ?_|refine BU rfl ?_)|(refine BL ?_;first|refine BQ ?_)|(refine BR ?_;try simp only [setS]))|refine AA ?_|refine AC ?_|refine AD ?_|refine AE ?_|refine AF rfl rfl ?_|refine AG rfl rfl ?_|refine AH ?_|refine AI ?_|refine AJ ?_|refine AK ?_|refine AL ?_|refine AM ?_|refine AN ?_|refine AO ?_|refine AP ?_|refine AQ rfl ?_|refine AR ?_|refine AS ?_|refine AT rfl ?_|refine AU rfl ?_
      refine ⟨K, ?_⟩
      rw [if_neg (fun q => hq q.2)]
      rfl
end
end Am
end Go.Proofs.Ythgcdoahoechhaa
namespace Go.Proofs.Ythgcdoahoechhaa
namespace Am
open Go.RowKit
set_option maxRecDepth 100000
section
variable {X : Type} {h h' : Hp X}
theorem EntV.lt {q : T3} {e : EM} (a : EntV h q e) : ∀ k, blk q.1 k ∨ blk q.2.1 k → k < h.n := fun k hk => by rcases hk with hk | hk; exact a.key.lt k hk; exact a.val.lt k hk
theorem EntsF.lt {v : AV} {l : List EM} {F : Nat → Prop} (a : EntsF h v l F) : EntsF h v l (fun k => F k ∧ k < h.n) := by
  obtain ⟨tri, h1, h2, h3, h4, h5⟩ := a.out
  refine ⟨tri, h1, h2, h3, fun k q => ⟨h4 k q, h1.lt k q⟩, fun q hq k hk => ⟨h5 q hq k hk, ?_⟩⟩
  obtain ⟨i, hi⟩ := List.mem_iff_getElem?.1 hq
  have hil := (List.getElem?_eq_some_iff.1 hi).1
  exact (h3 i q _ hi (List.getElem?_eq_getElem (by omega))).lt k hk
structure OE (h : Hp X) (v : AV) (l : List EM) (lo : Nat) (F : Nat → Prop) : Prop where
  out : ∃ tri : List T3, OS h 3 v l.length (tri.flatMap f3) ∧ tri.length = l.length ∧ (∀ (i : Nat) q e, tri[i]? = some q → l[i]? = some e → EntV h q e) ∧ (∀ k, blk v k → lo ≤ k) ∧ ∀ q ∈ tri, ∀ k, blk q.1 k ∨ blk q.2.1 k → F k ∧ ¬ blk v k
theorem OE.nil {lo : Nat} {F : Nat → Prop} : OE h .snil [] lo F := ⟨[], ⟨rfl, rfl⟩, rfl, fun i q e q1 => by simp at q1, fun k q => q.elim, fun q hq => by simp at hq⟩
theorem OE.keep {S : Nat → Prop} {v : AV} {l : List EM} {lo : Nat} {F : Nat → Prop} (a : OE h v l lo F) (k : Keep S h h') (hs : ∀ k, S k → k < h.n → False) : OE h' v l lo F := by
  obtain ⟨tri, h1, h2, h3, h4, h5⟩ := a.out
  exact ⟨tri, h1.keep k (fun j hj q => hs j q (h1.lt j hj)), h2, fun i q e q1 q2 => (h3 i q e q1 q2).keep k (fun j hj q => hs j q ((h3 i _ e q1 q2).lt j hj)), h4, h5⟩
theorem OE.up {v : AV} {l : List EM} {lo : Nat} {F : Nat → Prop} (a : OE h v l lo F) (k : Keep NoB h h') : OE h' v l lo F := a.keep k (fun _ q _ => q.elim)
theorem OE.lt {v : AV} {l : List EM} {lo : Nat} {F : Nat → Prop} (a : OE h v l lo F) : ∀ k, blk v k → k < h.n := by obtain ⟨_, h1, _⟩ := a.out; exact h1.lt
theorem OE.lo {v : AV} {l : List EM} {lo : Nat} {F : Nat → Prop} (a : OE h v l lo F) : ∀ k, blk v k → lo ≤ k := by obtain ⟨_, _, _, _, h4, _⟩ := a.out; exact h4
theorem OE.one {v : AV} {l : List EM} {lo : Nat} {F : Nat → Prop} (a : OE h v l lo F) : cellsOf v = some [v] ∧ v.one = true := by obtain ⟨_, h1, _⟩ := a.out; exact h1.one
theorem OE.entsF {v : AV} {l : List EM} {lo : Nat} {F : Nat → Prop} (a : OE h v l lo F) : EntsF h v l (fun k => F k ∨ lo ≤ k) := by
  obtain ⟨tri, h1, h2, h3, h4, h5⟩ := a.out
  exact ⟨tri, h1.rs, h2, h3, fun k q => .inr (h4 k q), fun q hq k hk => .inl (h5 q hq k hk).1⟩
theorem OE.next {v : AV} {l : List EM} {lo : Nat} {F : Nat → Prop} {q : T3} {e : EM} (a : OE h v l lo F) (hv : EntV h q e) (hn : ∀ k, blk q.1 k ∨ blk q.2.1 k → F k ∧ ¬ blk v k) (hlo : lo ≤ h.n) :
    ∃ cells, OS (h.push (.rw (f3 q))) 3 v l.length cells ∧ RS (h.push (.rw (f3 q))) 3 (.slice 3 h.n 0 1 (some 1)) 1 (f3 q) ∧ ∀ v' h', OS h' 3 v' (l.length + 1) (cells ++ f3 q) → Keep (blk v) (h.push (.rw (f3 q))) h' → (∀ g, blk v' g → blk v g ∨ (h.push (.rw (f3 q))).n ≤ g) → OE h' v' (l ++ [e]) lo F ∧ Keep (blk v) h h' := by
  obtain ⟨tri, h1, h2, h3, h4, h5⟩ := a.out
  have kp : Keep NoB h (h.push (.rw (f3 q))) := Keep.push _ _ _
  refine ⟨_, h1.up kp, rs_push (n := 1) (z := 3) rfl, fun v' h' a1 a2 a3 => ⟨⟨tri ++ [q], ?_, by simp [h2], ?_, ?_, ?_⟩, kp.any.trans a2 (fun _ _ q => q)⟩⟩
  · rw [List.length_append, List.flatMap_append]
    exact a1
  · intro i r x q1 q2
    by_cases hi : i < l.length
    · rw [List.getElem?_append_left (by omega)] at q1
      rw [List.getElem?_append_left hi] at q2
      exact ((h3 i r x q1 q2).up kp).keep a2 (fun k hk => (h5 r (List.mem_of_getElem? q1) k hk).2)
    · have h6 := (List.getElem?_eq_some_iff.1 q2).1
      rw [List.length_append, List.length_singleton] at h6
      have h7 : i = l.length := by omega
      subst h7
      rw [List.getElem?_append_right (Nat.le_refl _), Nat.sub_self] at q2
      rw [← h2, List.getElem?_append_right (Nat.le_refl _), Nat.sub_self] at q1
      simp at q1 q2
      subst q1 q2
      exact (hv.up kp).keep a2 (fun k hk => (hn k hk).2)
  · intro k hk
    rcases a3 k hk with hk | hk
    · exact h4 k hk
    · simp only [push_n] at hk; omega
  · intro r hr k hk
    have hlt : k < h.n ∧ F k ∧ ¬ blk v k := by
      rcases List.mem_append.1 hr with hr | hr
      · obtain ⟨i, hi⟩ := List.mem_iff_getElem?.1 hr
        have hil := (List.getElem?_eq_some_iff.1 hi).1
        exact ⟨(h3 i r _ hi (List.getElem?_eq_getElem (by omega))).lt k hk, h5 r hr k hk⟩
      · simp at hr
        subst hr
        exact ⟨hv.lt k hk, hn k hk⟩
    refine ⟨hlt.2.1, fun q6 => ?_⟩
    rcases a3 k q6 with q | q
    · exact hlt.2.2 q
    · simp only [push_n] at q; omega
structure Bats (h : Hp X) (v : AV) (ls : List (List EM)) (F : Nat → Prop) : Prop where
  out : ∃ cells, RS h 1 v ls.length cells ∧ (∀ k, blk v k → F k) ∧ ∀ (i : Nat) l, ls[i]? = some l → ∃ c, cells[i]? = some c ∧ EntsF h c l F
theorem Bats.keep {S F : Nat → Prop} {v : AV} {ls : List (List EM)} (a : Bats h v ls F) (k : Keep S h h') (hs : ∀ k, F k → ¬ S k) : Bats h' v ls F := by
  obtain ⟨cells, h1, h2, h3⟩ := a.out
  refine ⟨cells, h1.keep k (fun j hj => hs j (h2 j hj)), h2, fun i l hi => ?_⟩
  obtain ⟨c, h4, h5⟩ := h3 i l hi
  exact ⟨c, h4, h5.keep k hs⟩
theorem Bats.up {F : Nat → Prop} {v : AV} {ls : List (List EM)} (a : Bats h v ls F) (k : Keep NoB h h') : Bats h' v ls F := a.keep k (fun _ _ q => q)
theorem Bats.on {F G : Nat → Prop} {v : AV} {ls : List (List EM)} (a : Bats h v ls F) (hs : ∀ k, F k → G k) : Bats h v ls G := by
  obtain ⟨cells, h1, h2, h3⟩ := a.out
  refine ⟨cells, h1, fun k q => hs k (h2 k q), fun i l hi => ?_⟩
  obtain ⟨c, h4, h5⟩ := h3 i l hi
  exact ⟨c, h4, h5.on hs⟩
theorem Bats.lt {F : Nat → Prop} {v : AV} {ls : List (List EM)} (a : Bats h v ls F) : Bats h v ls (fun k => F k ∧ k < h.n) := by
  obtain ⟨cells, h1, h2, h3⟩ := a.out
  refine ⟨cells, h1, fun k q => ⟨h2 k q, h1.lt k q⟩, fun i l hi => ?_⟩
  obtain ⟨c, h4, h5⟩ := h3 i l hi
  exact ⟨c, h4, h5.lt⟩
structure OB (h : Hp X) (v : AV) (ls : List (List EM)) (lo : Nat) (F : Nat → Prop) : Prop where
  out : ∃ cells, OS h 1 v ls.length cells ∧ (∀ k, blk v k → lo ≤ k) ∧ ∀ (i : Nat) l, ls[i]? = some l → ∃ c, cells[i]? = some c ∧ EntsF h c l (fun k => F k ∧ ¬ blk v k)
theorem OB.nil {lo : Nat} {F : Nat → Prop} : OB h .snil [] lo F := ⟨[], ⟨rfl, rfl⟩, fun k q => q.elim, fun i l q => by simp at q⟩
theorem OB.keep {S F : Nat → Prop} {v : AV} {ls : List (List EM)} {lo : Nat} (a : OB h v ls lo F) (k : Keep S h h') (hv : ∀ k, blk v k → ¬ S k) (hs : ∀ k, F k → k < h.n → ¬ S k) : OB h' v ls lo F := by
  obtain ⟨cells, h1, h2, h3⟩ := a.out
  refine ⟨cells, h1.keep k hv, h2, fun i l hi => ?_⟩
  obtain ⟨c, h4, h5⟩ := h3 i l hi
  exact ⟨c, h4, (h5.lt.keep k (fun j hj => hs j hj.1.1 hj.2)).on (fun _ q => q.1)⟩
theorem OB.up {F : Nat → Prop} {v : AV} {ls : List (List EM)} {lo : Nat} (a : OB h v ls lo F) (k : Keep NoB h h') : OB h' v ls lo F := a.keep k (fun _ _ q => q) (fun _ _ _ q => q)
theorem OB.rs {F : Nat → Prop} {v : AV} {ls : List (List EM)} {lo : Nat} (a : OB h v ls lo F) : ∃ cells, RS h 1 v ls.length cells := by obtain ⟨_, h1, _⟩ := a.out; exact ⟨_, h1.rs⟩
theorem OB.lo {F : Nat → Prop} {v : AV} {ls : List (List EM)} {lo : Nat} (a : OB h v ls lo F) : ∀ k, blk v k → lo ≤ k := by obtain ⟨_, _, h2, _⟩ := a.out; exact h2
theorem OB.lt {F : Nat → Prop} {v : AV} {ls : List (List EM)} {lo : Nat} (a : OB h v ls lo F) : ∀ k, blk v k → k < h.n := by obtain ⟨_, h1, _⟩ := a.out; exact h1.lt
theorem OB.bats {F G : Nat → Prop} {v : AV} {ls : List (List EM)} {lo : Nat} (a : OB h v ls lo F) (h1 : ∀ k, lo ≤ k → k < h.n → G k) (h2 : ∀ k, F k → G k) : Bats h v ls G := by
  obtain ⟨cells, g1, g2, g3⟩ := a.out
  refine ⟨cells, g1.rs, fun k q => h1 k (g2 k q) (g1.lt k q), fun i l hi => ?_⟩
  obtain ⟨c, h4, h5⟩ := g3 i l hi
  exact ⟨c, h4, h5.on (fun k q => h2 k q.1)⟩
theorem EntsF.one {v : AV} {l : List EM} {F : Nat → Prop} (a : EntsF h v l F) : cellsOf v = some [v] ∧ v.one = true := by obtain ⟨_, h1, _⟩ := a.out; exact h1.one
theorem OB.next {v c : AV} {ls : List (List EM)} {l : List EM} {lo : Nat} {F : Nat → Prop} (a : OB h v ls lo F) (hv : EntsF h c l (fun k => F k ∧ ¬ blk v k)) (hlo : lo ≤ h.n) :
    ∃ cells, OS (h.push (.rw [c])) 1 v ls.length cells ∧ RS (h.push (.rw [c])) 1 (.slice 1 h.n 0 1 (some 1)) 1 [c] ∧ ∀ v' h', OS h' 1 v' (ls.length + 1) (cells ++ [c]) → Keep (blk v) (h.push (.rw [c])) h' → (∀ g, blk v' g → blk v g ∨ (h.push (.rw [c])).n ≤ g) → OB h' v' (ls ++ [l]) lo F ∧ Keep (blk v) h h' := by
  obtain ⟨cells, h1, h4, h3⟩ := a.out
  have kp : Keep NoB h (h.push (.rw [c])) := Keep.push _ _ _
  have hll := h1.len
  refine ⟨_, h1.up kp, rs_push (n := 1) (z := 1) rfl, fun v' h' a1 a2 a3 => ⟨⟨cells ++ [c], ?_, ?_, ?_⟩, kp.any.trans a2 (fun _ _ q => q)⟩⟩
  · rw [List.length_append]
    exact a1
  · intro k hk
    rcases a3 k hk with hk | hk
    · exact h4 k hk
    · simp only [push_n] at hk; omega
  · have mv : ∀ {c : AV} {l : List EM}, EntsF h c l (fun k => F k ∧ ¬ blk v k) → EntsF h' c l (fun k => F k ∧ ¬ blk v' k) := fun {c l} q => by
      refine ((q.lt.up kp).keep a2 (fun k hk => hk.1.2)).on (fun k hk => ⟨hk.1.1, fun q => ?_⟩)
      rcases a3 k q with q | q
      · exact hk.1.2 q
      · have := hk.2; simp only [push_n] at q; omega
    intro i x q2
    by_cases hi : i < ls.length
    · rw [List.getElem?_append_left hi] at q2
      obtain ⟨d, h6, h7⟩ := h3 i x q2
      exact ⟨d, by rw [List.getElem?_append_left (by omega)]; exact h6, mv h7⟩
    · have h6 := (List.getElem?_eq_some_iff.1 q2).1
      rw [List.length_append, List.length_singleton] at h6
      have h7 : i = ls.length := by omega
      subst h7
      rw [List.getElem?_append_right (Nat.le_refl _), Nat.sub_self] at q2
      simp at q2
      subst q2
      refine ⟨c, ?_, mv hv⟩
      rw [List.getElem?_append_right (by omega), show ls.length - cells.length = 0 by omega]
      rfl
end
end Am
end Go.Proofs.Ythgcdoahoechhaa
