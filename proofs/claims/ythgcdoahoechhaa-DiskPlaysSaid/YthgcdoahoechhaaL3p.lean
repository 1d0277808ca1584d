/- DiskPlays: the law, walked. -/
import Derived.Test.YthgcdoahoechhaaRdI
set_option linter.unusedVariables false
set_option linter.unusedSimpArgs false
namespace Go.Proofs.Ythgcdoahoechhaa
namespace Am
open Go.RowKit
set_option maxRecDepth 100000
def b_DiskPlays : BF := ⟨51, [0, 1, 4, 5, 6, 7, 8, 9, 22, 33, 49], (.seq (.reg [.mk none (.slot 2) (.mov (.mv (.const (.bool false))))]) (.seq (.reg [.mk none (.env 10) (.mov (.mv (.slot 0))), .mk none (.env 11) (.call 12 [(.env 10), (.const (.int .i64 0)), (.const (.int .i64 300))]), .mk none (.slot 3) (.mov (.mv (.env 11)))]) (.seq (.reg [.mk none (.env 13) (.mov (.mv (.slot 3))), .mk none (.env 14) (.call 13 [(.env 13)]), .mk none (.env 12) (.mov (.mv (.env 14))), .mk none (.env 15) (.mov (.ext 0 (.env 12))), .mk none (.env 16) (.mov (.ext 1 (.env 12))), .mk none (.slot 4) (.mov (.mv (.env 15))), .mk none (.slot 5) (.mov (.mv (.env 16)))]) (.seq (.seq (.reg [.mk none (.env 17) (.mov (.mv (.slot 4))), .mk none (.env 18) (.mov (.bin .eql .ptr (.env 17) (.const .nilp))), .mk none (.env 19) (.mov (.mv (.env 18))), .mk (some ((.env 19), false)) (.env 20) (.mov (.mv (.slot 5))), .mk (some ((.env 19), false)) (.env 21) (.mov (.bin .neq .no (.env 20) (.const (.int .i64 0)))), .mk none (.slot 8) (.mov (.pick (.env 19) (.const (.bool true)) (.env 21)))]) (.cond (.slot 8) (.seq (.reg [.mk none (.slot 2) (.mov (.mv (.const (.bool false))))]) .ret) .skip)) (.seq (.reg [.mk none (.env 23) (.mov (.mv (.slot 3))), .mk none (.env 24) (.mov (.bld [.snil, (.int .i64 0), (.int .i64 0), (.bool false)] [(1, 1, (.env 23))])), .mk none (.env 25) (.eff (.box (.env 24))), .mk none (.slot 6) (.mov (.mv (.env 25)))]) (.seq (.seq (.reg [.mk none (.slot 7) (.mov (.mv (.const (.int .i64 0))))]) (.block 0 (.loop (.seq (.seq (.reg [.mk none (.env 26) (.mov (.mv (.slot 7))), .mk none (.env 27) (.mov (.mv (.slot 1))), .mk none (.env 28) (.mov (.lenv (.env 27))), .mk none (.env 29) (.mov (.bin .lss .no (.env 26) (.env 28))), .mk none (.env 30) (.mov (.mv (.env 29))), .mk (some ((.env 30), true)) (.env 31) (.mov (.mv (.slot 7))), .mk (some ((.env 30), true)) (.env 32) (.mov (.bin .lss .no (.env 31) (.const (.int .i64 60)))), .mk none (.slot 9) (.mov (.pick (.env 30) (.env 32) (.const (.bool false))))]) (.cond (.slot 9) .skip (.exit 0))) (.seq (.block 1 (.seq (.reg [.mk none (.env 36) (.mov (.mv (.slot 4))), .mk none (.env 37) (.mov (.mv (.slot 6))), .mk none (.env 38) (.mov (.mv (.slot 1))), .mk none (.env 39) (.mov (.mv (.slot 7))), .mk none (.env 40) (.mov (.iaddr 6 (.env 38) (.env 39))), .mk none (.env 41) (.mov (.ldn 6 (.env 40))), .mk none (.env 42) (.call 14 [(.env 36), (.env 37), (.env 41)]), .mk none (.env 43) (.mov (.notb (.env 42))), .mk none (.env 44) (.mov (.mv (.env 43))), .mk (some ((.env 44), false)) (.env 45) (.mov (.mv (.slot 4))), .mk (some ((.env 44), false)) (.env 46) (.mov (.mv (.slot 6))), .mk (some ((.env 44), false)) (.env 47) (.call 15 [(.env 45), (.env 46)]), .mk (some ((.env 44), false)) (.env 48) (.mov (.notb (.env 47))), .mk none (.slot 10) (.mov (.pick (.env 44) (.const (.bool true)) (.env 48)))]) (.cond (.slot 10) (.seq (.reg [.mk none (.slot 2) (.mov (.mv (.const (.bool false))))]) .ret) .skip))) (.reg [.mk none (.env 34) (.mov (.mv (.slot 7))), .mk none (.env 35) (.mov (.bin .add .no (.env 34) (.const (.int .i64 1)))), .mk none (.slot 7) (.mov (.mv (.env 35)))])))))) (.seq (.reg [.mk none (.env 50) (.call 16 []), .mk none (.slot 2) (.mov (.mv (.env 50)))]) .ret))))))), [.slot (.slot 2)]⟩
structure AskM where
  kind : Int
  f : Int
  g : Int
  n : Int
  b : List UInt8
  s : List UInt8
abbrev QA := AV × AskM
def f6 (q : QA) : List AV := [.int .i64 q.2.kind, .int .i64 q.2.f, .int .i64 q.2.g, .int .i64 q.2.n, q.1, .str q.2.s]
theorem f6_len (tri : List QA) : (tri.flatMap f6).length = tri.length * 6 := by
  induction tri with
  | nil => rfl
  | cons q l ih => rw [List.flatMap_cons, List.length_append, ih, List.length_cons, Nat.succ_mul, Nat.add_comm]; rfl
theorem f6_row : ∀ {tri : List QA} {i : Nat} {q : QA}, tri[i]? = some q → ((tri.flatMap f6).drop (i * 6)).take 6 = f6 q
  | [], i, q, h => by simp at h
  | p :: l, 0, q, h => by
    simp at h; subst h
    rw [List.flatMap_cons, Nat.zero_mul, List.drop_zero]
    exact List.take_left (l₁ := f6 p)
  | p :: l, i + 1, q, h => by
    simp at h
    rw [List.flatMap_cons]
    have e : (i + 1) * 6 = (f6 p).length + i * 6 := by simp [f6]; omega
    rw [e, ← List.drop_drop, List.drop_left]
    exact f6_row h
section
variable {X : Type} {h h' : Hp X}
theorem RS.at6 {n : Nat} {v : AV} {tri : List QA} (a : RS h 6 v n (tri.flatMap f6)) {i : Nat} {q : QA} (hi : tri[i]? = some q) : ∃ g o, (∀ {hh : Hp X} {e : En} {t : List AV} {x y : Od} {k : IntKind}, x.ev e t = v → y.ev e t = .int k (i : Int) → (Mv.iaddr 6 x y).ev e t hh = some (.ptr g o)) ∧
    ∀ {e : En} {t : List AV} {x : Od}, x.ev e t = .ptr g o → (Mv.ldn 6 x).ev e t h = some (.agg (f6 q)) := by
  have hlen := a.len
  rw [f6_len] at hlen
  have hil := (List.getElem?_eq_some_iff.1 hi).1
  have hin : i < n := by omega
  cases v <;> first | exact a.elim | skip
  · rename_i z g o m cap
    obtain ⟨rfl, rfl, hg, l, hl, hle, hc⟩ := a
    refine ⟨g, o + i * 6, fun {hh e t x y k} hx hy => ?_, fun {e t x} hx => ?_⟩
    · simp only [Mv.ev, hx, hy, nOf]
      rw [show Nat.blt i m = true by rw [Nat.blt_eq]; exact hin]
      rfl
    · simp only [Mv.ev, hx, AV.onPtr]
      rw [hl]
      have := f6_row hi
      rw [hc, List.drop_take, List.take_take, List.drop_drop, Nat.min_eq_left (by omega)] at this
      unfold takeN
      have hb : (o + i * 6 + 6).ble l.length = true := ble_t (by omega)
      simp only [hb, cond_true, this]
  · obtain ⟨rfl, _⟩ := a; omega
  · obtain ⟨rfl, _⟩ := a; omega
structure AsksAt (h : Hp X) (v : AV) (l : List QA) : Prop where
  rs : RS h 6 v l.length (l.flatMap f6)
  len : l.length ≤ maxLen
  row : ∀ q ∈ l, RS h 1 q.1 q.2.b.length (q.2.b.map ub) ∧ I64 q.2.n
theorem AsksAt.keep {S : Nat → Prop} {v : AV} {l : List QA} (a : AsksAt h v l) (k : Keep S h h') (hs : ∀ k, S k → k < h.n → False) : AsksAt h' v l :=
  ⟨a.rs.keep k (fun j q1 q2 => hs j q2 (a.rs.lt j q1)), a.len, fun q hq => ⟨(a.row q hq).1.keep k (fun j q1 q2 => hs j q2 ((a.row q hq).1.lt j q1)), (a.row q hq).2⟩⟩
theorem AsksAt.up {v : AV} {l : List QA} (a : AsksAt h v l) (k : Keep NoB h h') : AsksAt h' v l := a.keep k (fun _ q _ => q)
end
section
variable {E : Nat → Option (Ent MD)}
set_option maxHeartbeats 4000000 in
theorem plays_ok (hE : ∀ f e, E f = some e → e.plain) (T : RdS E) (hnew : E 13 = some (.nat n_new)) (hkn : E 16 = some (.nat n_true)) (hlaw : E 3 = some (.bc b_DiskPlays)) {h : Hp MD} {v : AV} {l : List QA} {lim0 : Int} (ha : AsksAt h v l) (hl0 : I64 lim0) :
    WF (lim E) 3 [.int .i64 lim0, v] h fun x _ => x = .bool true := by
  have hmx : (maxLen : Nat) = 9223372036854775807 := rfl
  have hal := ha.len
  refine wf_bc hE hlaw rfl ?_
  simp only [b_DiskPlays, List.map, getS]
  repeat first|(refine BG ?_;first|(refine BH ?_;first|(refine BI ?_;refine BM ?_)|(refine BJ ?_;first|refine BN ?_|refine BO ?_)|refine BP ?_)|(refine BK ?_;first|refine BS rfl rfl ?_|refine BT rfl rfl ?_|refine BU rfl ?_)|(refine BL ?_;first|refine BQ ?_)|(refine BR ?_;try simp only [setS]))|refine AA ?_|refine AC ?_|refine AD ?_|refine AE ?_|refine AF rfl rfl ?_|refine AG rfl rfl ?_|refine AH ?_|refine AI ?_|refine AJ ?_|refine AK ?_|refine AL ?_|refine AM ?_|refine AN ?_|refine AO ?_|refine AP ?_|refine AQ rfl ?_|refine AR ?_|refine AS ?_|refine AT rfl ?_|refine AU rfl ?_
  refine wr_call_e rfl ((within_ok hE T.within hl0 (lo := 0) (hi := 300) (by omega) (by omega) (by omega)).mono fun z h1 ⟨e1, e2⟩ => ?_)
  subst e1 e2
  have hw := withinF_in (n := lim0) (lo := 0) (hi := 300) (by omega)
  generalize withinF lim0 0 300 = L at *
  repeat first|(refine BG ?_;first|(refine BH ?_;first|(refine BI ?_;refine BM ?_)|(refine BJ ?_;first|refine BN ?_|refine BO ?_)|refine BP ?_)|(refine BK ?_;first|refine BS rfl rfl ?_|refine BT rfl rfl ?_|refine BU rfl ?_)|(refine BL ?_;first|refine BQ ?_)|(refine BR ?_;try simp only [setS]))|refine AA ?_|refine AC ?_|refine AD ?_|refine AE ?_|refine AF rfl rfl ?_|refine AG rfl rfl ?_|refine AH ?_|refine AI ?_|refine AJ ?_|refine AK ?_|refine AL ?_|refine AM ?_|refine AN ?_|refine AO ?_|refine AP ?_|refine AQ rfl ?_|refine AR ?_|refine AS ?_|refine AT rfl ?_|refine AU rfl ?_
  refine wr_call_e rfl ((w_new hE hnew (n := L) (by omega) (by omega)).mono fun z h2 ⟨e1, o2, k2, n2⟩ => ?_)
  subst e1
  repeat first|(refine BG ?_;first|(refine BH ?_;first|(refine BI ?_;refine BM ?_)|(refine BJ ?_;first|refine BN ?_|refine BO ?_)|refine BV (v_pnil rfl) ?_|refine BP ?_)|(refine BK ?_;first|refine BS rfl rfl ?_|refine BT rfl rfl ?_|refine BU rfl ?_)|(refine BL ?_;first|refine BW (ef_box rfl rfl) ?_|refine BQ ?_)|(refine BR ?_;try simp only [setS]))|refine AA ?_|refine AC ?_|refine AD ?_|refine AE ?_|refine AF rfl rfl ?_|refine AG rfl rfl ?_|refine AH ?_|refine AI ?_|refine AJ ?_|refine AK ?_|refine AL ?_|refine AM ?_|refine AN ?_|refine AO ?_|refine AP ?_|refine AQ rfl ?_|refine AR ?_|refine AS ?_|refine AT rfl ?_|refine AU rfl ?_
  refine wb_hq (h' := h2.push (.rw (diskC (MD.new L) .snil))) rfl ?_
  have kp : Keep NoB h2 (h2.push (.rw (diskC (MD.new L) .snil))) := Keep.push _ _ _
  have r3 : RD (h2.push (.rw (diskC (MD.new L) .snil))) h2.n (MD.new L) := ⟨⟨.snil, [], bx_push, LF.nil, .nil⟩, MD.Ok.new (by omega) (by omega)⟩
  have d3 := o2.up kp
  have a3 := (ha.up k2).up kp
  have hn3 : (h2.push (.rw (diskC (MD.new L) .snil))).n = h2.n + 1 := rfl
  have alt : ∀ k, k < h1.n → ¬ (k = h1.n ∨ h2.n ≤ k) := fun k q q2 => by omega
  generalize hX : h2.push (.rw (diskC (MD.new L) .snil)) = h3 at *
  have hkeep : ∀ {hh : Hp MD}, Keep (fun k => k = h1.n ∨ h2.n ≤ k) h3 hh → AsksAt hh v l := fun {hh} K =>
    ⟨a3.rs.keep K (fun j q1 q2 => alt j (ha.rs.lt j q1) q2), a3.len, fun q hq => ⟨(a3.row q hq).1.keep K (fun j q1 q2 => alt j ((ha.row q hq).1.lt j q1) q2), (a3.row q hq).2⟩⟩
  refine wb_loop (fun n t hh => ∃ (i : Nat) (m : MD) (s9 s10 : AV), i ≤ 60 ∧ n = 60 - i ∧ m.fs.length ≤ i ∧ Ob hh h1.n m ∧ RD hh h2.n m ∧ Keep (fun k => k = h1.n ∨ h2.n ≤ k) h3 hh ∧ t = [.int .i64 lim0, v, .bool false, .int .i64 L, .ptr h1.n 0, .int .i64 0, .ptr h2.n 0, .int .i64 i, .bool false, s9, s10]) ?_ 60 _ _ ⟨0, _, _, _, by omega, by omega, Nat.le_refl _, d3, r3, Keep.refl _ _, rfl⟩
  rintro n t hh ⟨i, m, s9, s10, hi, hm, hml, d, r, K, rfl⟩
  have aa := hkeep K
  by_cases hlt : i < l.length ∧ i < 60
  · obtain ⟨hl1, hl2⟩ := hlt
    obtain ⟨q, hq⟩ : ∃ q, l[i]? = some q := ⟨_, List.getElem?_eq_getElem hl1⟩
    obtain ⟨g, o, c1, c2⟩ := aa.rs.at6 hq
    have hrow := aa.row q (List.mem_of_getElem? hq)
    have hrow0 := ha.row q (List.mem_of_getElem? hq)
    repeat first|(refine BG ?_;first|(refine BH ?_;first|(refine BI ?_;refine BM ?_)|(refine BJ ?_;first|refine BN ?_|refine BO ?_)|refine BV (aa.rs.lenv (by rfl)) ?_|refine BV (c1 rfl rfl) ?_|refine BV (c2 rfl) ?_|refine BP ?_)|(refine BK ?_;first|refine BS rfl rfl ?_|refine BT rfl rfl ?_|refine BU rfl ?_)|(refine BL ?_;first|refine BQ ?_)|(refine BR ?_;try simp only [setS]))|refine AA ?_|refine AC ?_|refine AD ?_|refine AE ?_|refine AF rfl rfl ?_|refine AG rfl rfl ?_|refine AH ?_|refine AI ?_|refine AJ ?_|refine AK ?_|refine AL ?_|refine AM ?_|refine AN ?_|refine AO ?_|refine AP ?_|refine AQ rfl ?_|refine AR ?_|refine AS ?_|refine AT rfl ?_|refine AU rfl ?_
    refine wr_call_e rfl ((do_ok hE T.toRdO d r (by omega) (by omega) hrow.1 (fun k q1 => by have := hrow0.1.lt k q1; omega) hrow.2).mono fun x h4 ⟨e4, P⟩ => ?_)
    subst e4
    obtain ⟨m', hl', d4, r4⟩ := P.out
    repeat first|(refine BG ?_;first|(refine BH ?_;first|(refine BI ?_;refine BM ?_)|(refine BJ ?_;first|refine BN ?_|refine BO ?_)|refine BP ?_)|(refine BK ?_;first|refine BS rfl rfl ?_|refine BT rfl rfl ?_|refine BU rfl ?_)|(refine BL ?_;first|refine BQ ?_)|(refine BR ?_;try simp only [setS]))|refine AA ?_|refine AC ?_|refine AD ?_|refine AE ?_|refine AF rfl rfl ?_|refine AG rfl rfl ?_|refine AH ?_|refine AI ?_|refine AJ ?_|refine AK ?_|refine AL ?_|refine AM ?_|refine AN ?_|refine AO ?_|refine AP ?_|refine AQ rfl ?_|refine AR ?_|refine AS ?_|refine AT rfl ?_|refine AU rfl ?_
    refine wr_call_e rfl ((same_d_ok hE T d4 r4 (by omega)).mono fun x h5 ⟨e5, k5⟩ => ?_)
    subst e5
    repeat first|(refine BG ?_;first|(refine BH ?_;first|(refine BI ?_;refine BM ?_)|(refine BJ ?_;first|refine BN ?_|refine BO ?_)|refine BP ?_)|(refine BK ?_;first|refine BS rfl rfl ?_|refine BT rfl rfl ?_|refine BU rfl ?_)|(refine BL ?_;first|refine BQ ?_)|(refine BR ?_;try simp only [setS]))|refine AA ?_|refine AC ?_|refine AD ?_|refine AE ?_|refine AF rfl rfl ?_|refine AG rfl rfl ?_|refine AH ?_|refine AI ?_|refine AJ ?_|refine AK ?_|refine AL ?_|refine AM ?_|refine AN ?_|refine AO ?_|refine AP ?_|refine AQ rfl ?_|refine AR ?_|refine AS ?_|refine AT rfl ?_|refine AU rfl ?_
    rw [show ((i : Int) + 1) = ((i + 1 : Nat) : Int) by omega]
    exact round_norm (n - 1) (by omega) ⟨i + 1, m', _, _, by omega, by omega, by omega, d4.up k5, r4.up k5, (K.trans P.keep (fun _ _ q => q)).and k5, rfl⟩
  · by_cases hl1 : i < l.length
    · have hl2 : ¬ i < 60 := fun q => hlt ⟨hl1, q⟩
      repeat first|(refine BG ?_;first|(refine BH ?_;first|(refine BI ?_;refine BM ?_)|(refine BJ ?_;first|refine BN ?_|refine BO ?_)|refine BV (aa.rs.lenv (by rfl)) ?_|refine BP ?_)|(refine BK ?_;first|refine BS rfl rfl ?_|refine BT rfl rfl ?_|refine BU rfl ?_)|(refine BL ?_;first|refine BQ ?_)|(refine BR ?_;try simp only [setS]))|refine AA ?_|refine AC ?_|refine AD ?_|refine AE ?_|refine AF rfl rfl ?_|refine AG rfl rfl ?_|refine AH ?_|refine AI ?_|refine AJ ?_|refine AK ?_|refine AL ?_|refine AM ?_|refine AN ?_|refine AO ?_|refine AP ?_|refine AQ rfl ?_|refine AR ?_|refine AS ?_|refine AT rfl ?_|refine AU rfl ?_
      refine wr_call_e rfl ((wf_true hE hkn).mono fun x h6 ⟨e16, e17⟩ => ?_)
      subst e16 e17
      repeat first|(refine BG ?_;first|(refine BH ?_;first|(refine BI ?_;refine BM ?_)|(refine BJ ?_;first|refine BN ?_|refine BO ?_)|refine BP ?_)|(refine BK ?_;first|refine BS rfl rfl ?_|refine BT rfl rfl ?_|refine BU rfl ?_)|(refine BL ?_;first|refine BQ ?_)|(refine BR ?_;try simp only [setS]))|refine AA ?_|refine AC ?_|refine AD ?_|refine AE ?_|refine AF rfl rfl ?_|refine AG rfl rfl ?_|refine AH ?_|refine AI ?_|refine AJ ?_|refine AK ?_|refine AL ?_|refine AM ?_|refine AN ?_|refine AO ?_|refine AP ?_|refine AQ rfl ?_|refine AR ?_|refine AS ?_|refine AT rfl ?_|refine AU rfl ?_
      rfl
    · repeat first|(refine BG ?_;first|(refine BH ?_;first|(refine BI ?_;refine BM ?_)|(refine BJ ?_;first|refine BN ?_|refine BO ?_)|refine BV (aa.rs.lenv (by rfl)) ?_|refine BP ?_)|(refine BK ?_;first|refine BS rfl rfl ?_|refine BT rfl rfl ?_|refine BU rfl ?_)|(refine BL ?_;first|refine BQ ?_)|(refine BR ?_;try simp only [setS]))|refine AA ?_|refine AC ?_|refine AD ?_|refine AE ?_|refine AF rfl rfl ?_|refine AG rfl rfl ?_|refine AH ?_|refine AI ?_|refine AJ ?_|refine AK ?_|refine AL ?_|refine AM ?_|refine AN ?_|refine AO ?_|refine AP ?_|refine AQ rfl ?_|refine AR ?_|refine AS ?_|refine AT rfl ?_|refine AU rfl ?_
      refine wr_call_e rfl ((wf_true hE hkn).mono fun x h6 ⟨e16, e17⟩ => ?_)
      subst e16 e17
      repeat first|(refine BG ?_;first|(refine BH ?_;first|(refine BI ?_;refine BM ?_)|(refine BJ ?_;first|refine BN ?_|refine BO ?_)|refine BP ?_)|(refine BK ?_;first|refine BS rfl rfl ?_|refine BT rfl rfl ?_|refine BU rfl ?_)|(refine BL ?_;first|refine BQ ?_)|(refine BR ?_;try simp only [setS]))|refine AA ?_|refine AC ?_|refine AD ?_|refine AE ?_|refine AF rfl rfl ?_|refine AG rfl rfl ?_|refine AH ?_|refine AI ?_|refine AJ ?_|refine AK ?_|refine AL ?_|refine AM ?_|refine AN ?_|refine AO ?_|refine AP ?_|refine AQ rfl ?_|refine AR ?_|refine AS ?_|refine AT rfl ?_|refine AU rfl ?_
      rfl
end
end Am
end Go.Proofs.Ythgcdoahoechhaa
