/- The document's disk: its search, its count, its room; all files but one. -/
import Derived.Test.YthgcdoahoechhaaRdA
set_option linter.unusedVariables false
set_option linter.unusedSimpArgs false
namespace Go.Proofs.Ythgcdoahoechhaa
namespace Am
open Go.RowKit
set_option maxRecDepth 100000
def b_refAt : BF := ⟨26, [0, 1, 4, 5, 12, 24], (.seq (.reg [.mk none (.slot 2) (.mov (.mv (.const (.int .i64 0))))]) (.seq (.seq (.reg [.mk none (.slot 3) (.mov (.mv (.const (.int .i64 0))))]) (.block 0 (.loop (.seq (.seq (.reg [.mk none (.env 6) (.mov (.mv (.slot 3))), .mk none (.env 7) (.mov (.mv (.slot 0))), .mk none (.env 8) (.mov (.nilc (.env 7))), .mk none (.env 9) (.mov (.faddr 0 (.env 8))), .mk none (.env 10) (.mov (.ld1 (.env 9))), .mk none (.env 11) (.mov (.lenv (.env 10))), .mk none (.slot 4) (.mov (.bin .lss .no (.env 6) (.env 11)))]) (.cond (.slot 4) .skip (.exit 0))) (.seq (.block 1 (.seq (.reg [.mk none (.env 15) (.mov (.mv (.slot 0))), .mk none (.env 16) (.mov (.nilc (.env 15))), .mk none (.env 17) (.mov (.faddr 0 (.env 16))), .mk none (.env 18) (.mov (.ld1 (.env 17))), .mk none (.env 19) (.mov (.mv (.slot 3))), .mk none (.env 20) (.mov (.iaddr 3 (.env 18) (.env 19))), .mk none (.env 21) (.mov (.faddr 0 (.env 20))), .mk none (.env 22) (.mov (.ld1 (.env 21))), .mk none (.env 23) (.mov (.mv (.slot 1))), .mk none (.slot 5) (.mov (.bin .eql .no (.env 22) (.env 23)))]) (.cond (.slot 5) (.seq (.reg [.mk none (.env 25) (.mov (.mv (.slot 3))), .mk none (.slot 2) (.mov (.mv (.env 25)))]) .ret) .skip))) (.reg [.mk none (.env 13) (.mov (.mv (.slot 3))), .mk none (.env 14) (.mov (.bin .add .no (.env 13) (.const (.int .i64 1)))), .mk none (.slot 3) (.mov (.mv (.env 14)))])))))) (.seq (.reg [.mk none (.slot 2) (.mov (.mv (.const (.int .i64 (-1)))))]) .ret))), [.slot (.slot 2)]⟩
def b_refUsed : BF := ⟨26, [0, 2, 3, 4, 11], (.seq (.reg [.mk none (.slot 1) (.mov (.mv (.const (.int .i64 0))))]) (.seq (.reg [.mk none (.slot 2) (.mov (.mv (.const (.int .i64 0))))]) (.seq (.seq (.reg [.mk none (.slot 3) (.mov (.mv (.const (.int .i64 0))))]) (.block 0 (.loop (.seq (.seq (.reg [.mk none (.env 5) (.mov (.mv (.slot 3))), .mk none (.env 6) (.mov (.mv (.slot 0))), .mk none (.env 7) (.mov (.nilc (.env 6))), .mk none (.env 8) (.mov (.faddr 0 (.env 7))), .mk none (.env 9) (.mov (.ld1 (.env 8))), .mk none (.env 10) (.mov (.lenv (.env 9))), .mk none (.slot 4) (.mov (.bin .lss .no (.env 5) (.env 10)))]) (.cond (.slot 4) .skip (.exit 0))) (.seq (.block 1 (.reg [.mk none (.env 14) (.mov (.mv (.slot 2))), .mk none (.env 15) (.mov (.mv (.slot 0))), .mk none (.env 16) (.mov (.nilc (.env 15))), .mk none (.env 17) (.mov (.faddr 0 (.env 16))), .mk none (.env 18) (.mov (.ld1 (.env 17))), .mk none (.env 19) (.mov (.mv (.slot 3))), .mk none (.env 20) (.mov (.iaddr 3 (.env 18) (.env 19))), .mk none (.env 21) (.mov (.faddr 1 (.env 20))), .mk none (.env 22) (.mov (.ld1 (.env 21))), .mk none (.env 23) (.mov (.lenv (.env 22))), .mk none (.env 24) (.mov (.bin .add .no (.env 14) (.env 23))), .mk none (.slot 2) (.mov (.mv (.env 24)))])) (.reg [.mk none (.env 12) (.mov (.mv (.slot 3))), .mk none (.env 13) (.mov (.bin .add .no (.env 12) (.const (.int .i64 1)))), .mk none (.slot 3) (.mov (.mv (.env 13)))])))))) (.seq (.reg [.mk none (.env 25) (.mov (.mv (.slot 2))), .mk none (.slot 1) (.mov (.mv (.env 25)))]) .ret)))), [.slot (.slot 1)]⟩
def b_refNamed : BF := ⟨11, [0, 2], (.seq (.reg [.mk none (.slot 1) (.mov (.mv (.const (.bool false))))]) (.seq (.reg [.mk none (.env 3) (.mov (.mv (.slot 0))), .mk none (.env 4) (.mov (.lens (.env 3))), .mk none (.env 5) (.mov (.bin .geq .no (.env 4) (.const (.int .i64 1)))), .mk none (.env 6) (.mov (.mv (.env 5))), .mk (some ((.env 6), true)) (.env 7) (.mov (.mv (.slot 0))), .mk (some ((.env 6), true)) (.env 8) (.mov (.lens (.env 7))), .mk (some ((.env 6), true)) (.env 9) (.mov (.bin .leq .no (.env 8) (.const (.int .i64 32)))), .mk none (.env 10) (.mov (.pick (.env 6) (.env 9) (.const (.bool false)))), .mk none (.slot 1) (.mov (.mv (.env 10)))]) .ret)), [.slot (.slot 1)]⟩
def b_refGoes : BF := ⟨31, [0, 2, 6, 11], (.seq (.reg [.mk none (.slot 1) (.mov (.mv (.const (.bool false))))]) (.seq (.seq (.reg [.mk none (.env 3) (.mov (.mv (.slot 0))), .mk none (.env 4) (.mov (.nilc (.env 3))), .mk none (.env 5) (.mov (.faddr 3 (.env 4))), .mk none (.slot 2) (.mov (.ld1 (.env 5)))]) (.cond (.slot 2) (.seq (.reg [.mk none (.slot 1) (.mov (.mv (.const (.bool true))))]) .ret) .skip)) (.seq (.seq (.reg [.mk none (.env 7) (.mov (.mv (.slot 0))), .mk none (.env 8) (.mov (.nilc (.env 7))), .mk none (.env 9) (.mov (.faddr 2 (.env 8))), .mk none (.env 10) (.mov (.ld1 (.env 9))), .mk none (.slot 3) (.mov (.bin .gtr .no (.env 10) (.const (.int .i64 0))))]) (.cond (.slot 3) (.seq (.reg [.mk none (.env 12) (.mov (.mv (.slot 0))), .mk none (.env 13) (.mov (.nilc (.env 12))), .mk none (.env 14) (.mov (.faddr 2 (.env 13))), .mk none (.env 15) (.mov (.ld1 (.env 14))), .mk none (.env 16) (.mov (.bin .sub .no (.env 15) (.const (.int .i64 1)))), .mk none (.env 17) (.mov (.nilc (.env 12))), .mk none (.env 18) (.mov (.faddr 2 (.env 17))), .mk none .none (.eff (.store 1 (.env 18) (.env 16)))]) (.reg [.mk none (.env 19) (.mov (.mv (.slot 0))), .mk none (.env 20) (.mov (.mv (.slot 0))), .mk none (.env 21) (.mov (.nilc (.env 20))), .mk none (.env 22) (.mov (.faddr 2 (.env 21))), .mk none (.env 23) (.mov (.ld1 (.env 22))), .mk none (.env 24) (.mov (.bin .eql .no (.env 23) (.const (.int .i64 0)))), .mk none (.env 25) (.mov (.nilc (.env 19))), .mk none (.env 26) (.mov (.faddr 3 (.env 25))), .mk none .none (.eff (.store 1 (.env 26) (.env 24)))])) .skip)) (.seq (.reg [.mk none (.env 27) (.mov (.mv (.slot 0))), .mk none (.env 28) (.mov (.nilc (.env 27))), .mk none (.env 29) (.mov (.faddr 3 (.env 28))), .mk none (.env 30) (.mov (.ld1 (.env 29))), .mk none (.slot 1) (.mov (.mv (.env 30)))]) .ret)))), [.slot (.slot 1)]⟩
def b_refWithout : BF := ⟨39, [0, 1, 4, 5, 12, 24], (.seq (.reg [.mk none (.slot 2) (.mov (.mv (.const .snil)))]) (.seq (.seq (.reg [.mk none (.slot 3) (.mov (.mv (.const (.int .i64 0))))]) (.block 0 (.loop (.seq (.seq (.reg [.mk none (.env 6) (.mov (.mv (.slot 3))), .mk none (.env 7) (.mov (.mv (.slot 0))), .mk none (.env 8) (.mov (.nilc (.env 7))), .mk none (.env 9) (.mov (.faddr 0 (.env 8))), .mk none (.env 10) (.mov (.ld1 (.env 9))), .mk none (.env 11) (.mov (.lenv (.env 10))), .mk none (.slot 4) (.mov (.bin .lss .no (.env 6) (.env 11)))]) (.cond (.slot 4) .skip (.exit 0))) (.seq (.block 1 (.seq (.reg [.mk none (.env 15) (.mov (.mv (.slot 0))), .mk none (.env 16) (.mov (.nilc (.env 15))), .mk none (.env 17) (.mov (.faddr 0 (.env 16))), .mk none (.env 18) (.mov (.ld1 (.env 17))), .mk none (.env 19) (.mov (.mv (.slot 3))), .mk none (.env 20) (.mov (.iaddr 3 (.env 18) (.env 19))), .mk none (.env 21) (.mov (.faddr 0 (.env 20))), .mk none (.env 22) (.mov (.ld1 (.env 21))), .mk none (.env 23) (.mov (.mv (.slot 1))), .mk none (.slot 5) (.mov (.bin .neq .no (.env 22) (.env 23)))]) (.cond (.slot 5) (.reg [.mk none (.env 25) (.mov (.mv (.slot 2))), .mk none (.env 26) (.mov (.mv (.slot 0))), .mk none (.env 27) (.mov (.nilc (.env 26))), .mk none (.env 28) (.mov (.faddr 0 (.env 27))), .mk none (.env 29) (.mov (.ld1 (.env 28))), .mk none (.env 30) (.mov (.mv (.slot 3))), .mk none (.env 31) (.mov (.iaddr 3 (.env 29) (.env 30))), .mk none (.env 32) (.mov (.ldn 3 (.env 31))), .mk none (.env 33) (.eff (.bslice 3 1 [(.str []), .snil, (.int .i64 0)] [(0, 3, (.env 32))])), .mk none (.env 34) (.eff (.append 3 48 (.env 25) (.env 33))), .mk none (.slot 2) (.mov (.mv (.env 34)))]) .skip))) (.reg [.mk none (.env 13) (.mov (.mv (.slot 3))), .mk none (.env 14) (.mov (.bin .add .no (.env 13) (.const (.int .i64 1)))), .mk none (.slot 3) (.mov (.mv (.env 14)))])))))) (.reg [.mk none (.env 35) (.mov (.mv (.slot 0))), .mk none (.env 36) (.mov (.mv (.slot 2))), .mk none (.env 37) (.mov (.nilc (.env 35))), .mk none (.env 38) (.mov (.faddr 0 (.env 37))), .mk none .none (.eff (.store 1 (.env 38) (.env 36)))]))), []⟩
section
variable {X : Type} {h : Hp X}
theorem LF.at {v : AV} {qs : List QF} {lo i : Nat} {q : QF} (a : LF h v qs lo) (hi : qs[i]? = some q) : ∃ g o, (∀ {hh : Hp X} {e : En} {t : List AV} {x y : Od} {k : IntKind}, x.ev e t = v → y.ev e t = .int k (i : Int) → (Mv.iaddr 3 x y).ev e t hh = some (.ptr g o)) ∧
    (∀ {e : En} {t : List AV} {x : Od}, x.ev e t = .ptr g (o + 0) → (Mv.ld1 x).ev e t h = some (.str q.name)) ∧ (∀ {e : En} {t : List AV} {x : Od}, x.ev e t = .ptr g (o + 1) → (Mv.ld1 x).ev e t h = some q.v) ∧
    (∀ {e : En} {t : List AV} {x : Od}, x.ev e t = .ptr g (o + 2) → (Mv.ld1 x).ev e t h = some (.int .i64 q.sy)) ∧ ∀ {e : En} {t : List AV} {x : Od}, x.ev e t = .ptr g o → (Mv.ldn 3 x).ev e t h = some (.agg (QF.cells q)) := by
  obtain ⟨g, o, c1, c2, c3⟩ := a.arr.rs.atQ hi
  exact ⟨g, o, c1, fun hx => c2 (Keep.refl NoB _) (fun _ _ q => q) hx (by decide), fun hx => c2 (Keep.refl NoB _) (fun _ _ q => q) hx (by decide), fun hx => c2 (Keep.refl NoB _) (fun _ _ q => q) hx (by decide), fun hx => c3 (Keep.refl NoB _) (fun _ _ q => q) hx⟩
theorem LF.ats {v : AV} {qs : List QF} {lo i : Nat} {q : QF} (a : LF h v qs lo) (hi : qs[i]? = some q) : ∃ g o, (∀ {hh : Hp X} {e : En} {t : List AV} {x y : Od} {k : IntKind}, x.ev e t = v → y.ev e t = .int k (i : Int) → (Mv.iaddr 3 x y).ev e t hh = some (.ptr g o)) ∧
    (∀ {e : En} {t : List AV} {x : Od}, x.ev e t = .ptr g (o + 0) → (Mv.ld1 x).ev e t h = some (.str q.name)) ∧ (∀ {e : En} {t : List AV} {x : Od}, x.ev e t = .ptr g (o + 1) → (Mv.ld1 x).ev e t h = some q.v) ∧
    (∀ {e : En} {t : List AV} {x : Od}, x.ev e t = .ptr g (o + 2) → (Mv.ld1 x).ev e t h = some (.int .i64 q.sy)) ∧
    ∀ {j : Nat} {q' : QF} {u : AV}, j < 3 → q'.cells = q.cells.set j u → RS h 1 q'.v q'.b.length (q'.b.map ub) → (∀ k, blk q'.v k → lo < k ∧ ¬ blk v k) → ∃ lc, Bx h g lc ∧ o + j < lc.length ∧ LF (h.put g (.rw (spl (o + j) [u] lc))) v (qs.set i q') lo ∧ blk v g ∧ lo < g := by
  obtain ⟨g, o, c1, c2, c3, c4, _⟩ := a.at hi
  refine ⟨g, o, c1, c2, c3, c4, fun hj hc hv hn => ?_⟩
  obtain ⟨g', o', lc, d1, d2, d3, d4, d5, d6⟩ := a.set hi hj hc hv hn
  have e := (c1 (hh := h) (e := []) (t := []) (x := .const v) (y := .const (.int .i64 i)) (k := .i64) rfl rfl).symm.trans (d1 (hh := h) (e := []) (t := []) (x := .const v) (y := .const (.int .i64 i)) (kk := .i64) rfl rfl)
  simp only [Option.some.injEq, AV.ptr.injEq] at e
  obtain ⟨rfl, rfl⟩ := e
  exact ⟨lc, d2, d3, d4, d5, d6⟩
theorem LF.atk {v : AV} {qs : List QF} {lo i : Nat} {q : QF} (a : LF h v qs lo) (hi : qs[i]? = some q) : ∃ g o, (∀ {hh : Hp X} {e : En} {t : List AV} {x y : Od} {k : IntKind}, x.ev e t = v → y.ev e t = .int k (i : Int) → (Mv.iaddr 3 x y).ev e t hh = some (.ptr g o)) ∧
    (∀ {hh : Hp X} {e : En} {t : List AV} {x : Od}, Keep NoB h hh → x.ev e t = .ptr g (o + 0) → (Mv.ld1 x).ev e t hh = some (.str q.name)) ∧ (∀ {hh : Hp X} {e : En} {t : List AV} {x : Od}, Keep NoB h hh → x.ev e t = .ptr g (o + 1) → (Mv.ld1 x).ev e t hh = some q.v) ∧
    (∀ {hh : Hp X} {e : En} {t : List AV} {x : Od}, Keep NoB h hh → x.ev e t = .ptr g (o + 2) → (Mv.ld1 x).ev e t hh = some (.int .i64 q.sy)) ∧ (∀ {hh : Hp X} {e : En} {t : List AV} {x : Od}, Keep NoB h hh → x.ev e t = .ptr g o → (Mv.ldn 3 x).ev e t hh = some (.agg (QF.cells q))) ∧
    ∀ {hh : Hp X} {j : Nat} {q' : QF} {u : AV}, Keep NoB h hh → j < 3 → q'.cells = q.cells.set j u → RS hh 1 q'.v q'.b.length (q'.b.map ub) → (∀ k, blk q'.v k → lo < k ∧ ¬ blk v k) → ∃ lc, Bx hh g lc ∧ o + j < lc.length ∧ LF (hh.put g (.rw (spl (o + j) [u] lc))) v (qs.set i q') lo ∧ blk v g ∧ lo < g := by
  obtain ⟨g, o, c1, c2, c3⟩ := a.arr.rs.atQ hi
  refine ⟨g, o, c1, fun k hx => c2 k (fun _ _ q => q) hx (by decide), fun k hx => c2 k (fun _ _ q => q) hx (by decide), fun k hx => c2 k (fun _ _ q => q) hx (by decide), fun k hx => c3 k (fun _ _ q => q) hx, fun k hj hc hv hn => ?_⟩
  obtain ⟨g', o', lc, d1, d2, d3, d4, d5, d6⟩ := (a.up k).set hi hj hc hv hn
  have e := (c1 (hh := h) (e := []) (t := []) (x := .const v) (y := .const (.int .i64 i)) (k := .i64) rfl rfl).symm.trans (d1 (hh := h) (e := []) (t := []) (x := .const v) (y := .const (.int .i64 i)) (kk := .i64) rfl rfl)
  simp only [Option.some.injEq, AV.ptr.injEq] at e
  obtain ⟨rfl, rfl⟩ := e
  exact ⟨lc, d2, d3, d4, d5, d6⟩
theorem v_seq_f {e : En} {t : List AV} {q : Eq} {x y : Od} {a b : List UInt8} (hx : x.ev e t = .str a) (hy : y.ev e t = .str b) (hab : a ≠ b) : (Mv.bin .eql q x y).ev e t h = some (.bool false) := by
  rw [v_seql hx hy, beq_false_of_ne hab]
theorem v_lens {e : En} {t : List AV} {x : Od} {a : List UInt8} (hx : x.ev e t = .str a) : (Mv.lens x).ev e t h = some (.int .i64 a.length) := by
  simp only [Mv.ev, hx, AV.onStr]
theorem v_notb {e : En} {t : List AV} {x : Od} {a : Bool} (hx : x.ev e t = .bool a) : (Mv.notb x).ev e t h = some (.bool (!a)) := by
  simp only [Mv.ev, hx, AV.onBool]
end
theorem ef_bsQ {X : Type} {h : Hp X} {e : En} {t : List AV} {x : Od} {q : QF} (hx : x.ev e t = .agg q.cells) (hv : q.v.one = true) : (Ef.bslice 3 1 [.str [], .snil, .int .i64 0] [(0, 3, x)]).ev e t h = some (.slice 3 h.n 0 1 (some 1), h.push (.rw q.cells)) := by
  have ho : allOne q.cells = true := one_all3 rfl hv rfl
  simp only [Ef.ev, List.map, hx]
  show (bif allOne q.cells && Nat.beq 3 (1 * 3) && Nat.ble 1 maxLen then some (AV.slice 3 h.n 0 1 (some 1), h.push (.rw q.cells)) else none) = _
  rw [ho]
  rfl
theorem filter_s {qs : List QF} {i : Nat} {q : QF} (p : QF → Bool) (hq : qs[i]? = some q) : (qs.take (i + 1)).filter p = (qs.take i).filter p ++ if p q = true then [q] else [] := by
  rw [List.take_add_one, hq, List.filter_append]
  congr 1
  cases hp : p q <;> simp [hp]
def qsum (qs : List QF) : Nat := (qs.map fun q => q.b.length).sum
theorem qsum_s {qs : List QF} {i : Nat} {q : QF} (hq : qs[i]? = some q) : qsum (qs.take (i + 1)) = qsum (qs.take i) + q.b.length := by
  unfold qsum
  rw [List.take_add_one, hq, List.map_append, List.sum_append]
  simp
theorem qsum_le (qs : List QF) (k : Nat) : qsum (qs.take k) ≤ qsum qs := by
  unfold qsum
  conv => rhs; rw [← List.take_append_drop k qs, List.map_append, List.sum_append]
  omega
section
variable {E : Nat → Option (Ent MD)}
theorem rat_ok (hE : ∀ f e, E f = some e → e.plain) (hf : E 102 = some (.bc b_refAt)) {h : Hp MD} {r : Nat} {m : MD} {v : AV} {qs : List QF} (hb : Bx h r (diskC m v)) (hl : LF h v qs r) (hn : qs.length ≤ 1000) (s : List UInt8) :
    WF (lim E) 102 [.ptr r 0, .str s] h fun a h' => h' = h ∧ ((∃ (i : Nat) (q : QF), qs[i]? = some q ∧ q.name = s ∧ a = .int .i64 i) ∨ ((∀ q ∈ qs, q.name ≠ s) ∧ a = .int .i64 (-1))) := by
  refine wf_bc hE hf rfl ?_
  simp only [b_refAt, List.map, getS]
  repeat first|(refine BG ?_;first|(refine BH ?_;first|(refine BI ?_;refine BM ?_)|(refine BJ ?_;first|refine BN ?_|refine BO ?_)|refine BP ?_)|(refine BK ?_;first|refine BS rfl rfl ?_|refine BT rfl rfl ?_|refine BU rfl ?_)|(refine BL ?_;first|refine BQ ?_)|(refine BR ?_;try simp only [setS]))|refine AA ?_|refine AC ?_|refine AD ?_|refine AE ?_|refine AF rfl rfl ?_|refine AG rfl rfl ?_|refine AH ?_|refine AI ?_|refine AJ ?_|refine AK ?_|refine AL ?_|refine AM ?_|refine AN ?_|refine AO ?_|refine AP ?_|refine AQ rfl ?_|refine AR ?_|refine AS ?_|refine AT rfl ?_|refine AU rfl ?_
  refine wb_loop (fun n t hh => ∃ (i : Nat) (s4 s5 : AV), i ≤ qs.length ∧ n = qs.length - i ∧ hh = h ∧ (∀ (j : Nat) q, j < i → qs[j]? = some q → q.name ≠ s) ∧ t = [.ptr r 0, .str s, .int .i64 0, .int .i64 i, s4, s5]) ?_ qs.length _ _ ⟨0, _, _, by omega, by omega, rfl, by omega, rfl⟩
  rintro n t hh ⟨i, s4, s5, hi, hm, rfl, hne, rfl⟩
  by_cases hlt : i < qs.length
  · obtain ⟨q, hq⟩ : ∃ q, qs[i]? = some q := ⟨_, List.getElem?_eq_getElem hlt⟩
    obtain ⟨g, o, ca, c0, c1, c2, _⟩ := hl.at hq
    by_cases hs : q.name = s
    · repeat first|(refine BG ?_;first|(refine BH ?_;first|(refine BI ?_;refine BM ?_)|(refine BJ ?_;first|refine BN ?_|refine BO ?_)|refine BV (v_bx hb rfl rfl) ?_|refine BV (hl.arr.rs.lenv (by rfl)) ?_|refine BV (ca rfl rfl) ?_|refine BV (c0 rfl) ?_|refine BV (v_seq_t rfl rfl hs) ?_|refine BP ?_)|(refine BK ?_;first|refine BS rfl rfl ?_|refine BT rfl rfl ?_|refine BU rfl ?_)|(refine BL ?_;first|refine BQ ?_)|(refine BR ?_;try simp only [setS]))|refine AA ?_|refine AC ?_|refine AD ?_|refine AE ?_|refine AF rfl rfl ?_|refine AG rfl rfl ?_|refine AH ?_|refine AI ?_|refine AJ ?_|refine AK ?_|refine AL ?_|refine AM ?_|refine AN ?_|refine AO ?_|refine AP ?_|refine AQ rfl ?_|refine AR ?_|refine AS ?_|refine AT rfl ?_|refine AU rfl ?_
      exact ⟨rfl, .inl ⟨i, q, hq, hs, rfl⟩⟩
    · repeat first|(refine BG ?_;first|(refine BH ?_;first|(refine BI ?_;refine BM ?_)|(refine BJ ?_;first|refine BN ?_|refine BO ?_)|refine BV (v_bx hb rfl rfl) ?_|refine BV (hl.arr.rs.lenv (by rfl)) ?_|refine BV (ca rfl rfl) ?_|refine BV (c0 rfl) ?_|refine BV (v_seq_f rfl rfl hs) ?_|refine BP ?_)|(refine BK ?_;first|refine BS rfl rfl ?_|refine BT rfl rfl ?_|refine BU rfl ?_)|(refine BL ?_;first|refine BQ ?_)|(refine BR ?_;try simp only [setS]))|refine AA ?_|refine AC ?_|refine AD ?_|refine AE ?_|refine AF rfl rfl ?_|refine AG rfl rfl ?_|refine AH ?_|refine AI ?_|refine AJ ?_|refine AK ?_|refine AL ?_|refine AM ?_|refine AN ?_|refine AO ?_|refine AP ?_|refine AQ rfl ?_|refine AR ?_|refine AS ?_|refine AT rfl ?_|refine AU rfl ?_
      rw [show ((i : Int) + 1) = ((i + 1 : Nat) : Int) by omega]
      refine round_norm (n - 1) (by omega) ⟨i + 1, _, _, by omega, by omega, rfl, fun j q' h1 h2 => ?_, rfl⟩
      by_cases hj : j = i
      · subst hj; rw [hq] at h2; cases h2; exact hs
      · exact hne j q' (by omega) h2
  · repeat first|(refine BG ?_;first|(refine BH ?_;first|(refine BI ?_;refine BM ?_)|(refine BJ ?_;first|refine BN ?_|refine BO ?_)|refine BV (v_bx hb rfl rfl) ?_|refine BV (hl.arr.rs.lenv (by rfl)) ?_|refine BP ?_)|(refine BK ?_;first|refine BS rfl rfl ?_|refine BT rfl rfl ?_|refine BU rfl ?_)|(refine BL ?_;first|refine BQ ?_)|(refine BR ?_;try simp only [setS]))|refine AA ?_|refine AC ?_|refine AD ?_|refine AE ?_|refine AF rfl rfl ?_|refine AG rfl rfl ?_|refine AH ?_|refine AI ?_|refine AJ ?_|refine AK ?_|refine AL ?_|refine AM ?_|refine AN ?_|refine AO ?_|refine AP ?_|refine AQ rfl ?_|refine AR ?_|refine AS ?_|refine AT rfl ?_|refine AU rfl ?_
    refine ⟨rfl, .inr ⟨fun q hq => ?_, rfl⟩⟩
    obtain ⟨j, hj⟩ := List.mem_iff_getElem?.1 hq
    exact hne j q (by have := (List.getElem?_eq_some_iff.1 hj).1; omega) hj
theorem rused_ok (hE : ∀ f e, E f = some e → e.plain) (hf : E 69 = some (.bc b_refUsed)) {h : Hp MD} {r : Nat} {m : MD} {v : AV} {qs : List QF} (hb : Bx h r (diskC m v)) (hl : LF h v qs r) (hn : qs.length ≤ 1000) (hs : qsum qs ≤ 16777216) :
    WF (lim E) 69 [.ptr r 0] h fun a h' => h' = h ∧ a = .int .i64 (qsum qs : Nat) := by
  refine wf_bc hE hf rfl ?_
  simp only [b_refUsed, List.map, getS]
  repeat first|(refine BG ?_;first|(refine BH ?_;first|(refine BI ?_;refine BM ?_)|(refine BJ ?_;first|refine BN ?_|refine BO ?_)|refine BP ?_)|(refine BK ?_;first|refine BS rfl rfl ?_|refine BT rfl rfl ?_|refine BU rfl ?_)|(refine BL ?_;first|refine BQ ?_)|(refine BR ?_;try simp only [setS]))|refine AA ?_|refine AC ?_|refine AD ?_|refine AE ?_|refine AF rfl rfl ?_|refine AG rfl rfl ?_|refine AH ?_|refine AI ?_|refine AJ ?_|refine AK ?_|refine AL ?_|refine AM ?_|refine AN ?_|refine AO ?_|refine AP ?_|refine AQ rfl ?_|refine AR ?_|refine AS ?_|refine AT rfl ?_|refine AU rfl ?_
  refine wb_loop (fun n t hh => ∃ (i : Nat) (s4 : AV), i ≤ qs.length ∧ n = qs.length - i ∧ hh = h ∧ t = [.ptr r 0, .int .i64 0, .int .i64 (qsum (qs.take i) : Nat), .int .i64 i, s4]) ?_ qs.length _ _ ⟨0, .bot, by omega, by omega, rfl, rfl⟩
  rintro n t hh ⟨i, s4, hi, hm, rfl, rfl⟩
  by_cases hlt : i < qs.length
  · obtain ⟨q, hq⟩ : ∃ q, qs[i]? = some q := ⟨_, List.getElem?_eq_getElem hlt⟩
    obtain ⟨g, o, ca, c0, c1, c2, _⟩ := hl.at hq
    have rb := (hl.row q (List.mem_of_getElem? hq)).1
    have e := qsum_s hq
    have := qsum_le qs (i + 1)
    have e2 : ((qsum (qs.take i) : Nat) : Int) + (q.b.length : Nat) = (qsum (qs.take (i + 1)) : Nat) := by omega
    repeat first|(refine BG ?_;first|(refine BH ?_;first|(refine BI ?_;refine BM ?_)|(refine BJ ?_;first|refine BN ?_|refine BO ?_)|refine BV (v_bx hb rfl rfl) ?_|refine BV (hl.arr.rs.lenv (by rfl)) ?_|refine BV (ca rfl rfl) ?_|refine BV (c1 rfl) ?_|refine BV (rb.lenv (by rfl)) ?_|refine BV (v_add rfl rfl (by omega)) ?_|refine BP ?_)|(refine BK ?_;first|refine BS rfl rfl ?_|refine BT rfl rfl ?_|refine BU rfl ?_)|(refine BL ?_;first|refine BQ ?_)|(refine BR ?_;try simp only [setS]))|refine AA ?_|refine AC ?_|refine AD ?_|refine AE ?_|refine AF rfl rfl ?_|refine AG rfl rfl ?_|refine AH ?_|refine AI ?_|refine AJ ?_|refine AK ?_|refine AL ?_|refine AM ?_|refine AN ?_|refine AO ?_|refine AP ?_|refine AQ rfl ?_|refine AR ?_|refine AS ?_|refine AT rfl ?_|refine AU rfl ?_
    rw [show ((i : Int) + 1) = ((i + 1 : Nat) : Int) by omega]
    refine round_norm (n - 1) (by omega) ⟨i + 1, .bool true, by omega, by omega, rfl, ?_⟩
    rw [← e2]
  · repeat first|(refine BG ?_;first|(refine BH ?_;first|(refine BI ?_;refine BM ?_)|(refine BJ ?_;first|refine BN ?_|refine BO ?_)|refine BV (v_bx hb rfl rfl) ?_|refine BV (hl.arr.rs.lenv (by rfl)) ?_|refine BP ?_)|(refine BK ?_;first|refine BS rfl rfl ?_|refine BT rfl rfl ?_|refine BU rfl ?_)|(refine BL ?_;first|refine BQ ?_)|(refine BR ?_;try simp only [setS]))|refine AA ?_|refine AC ?_|refine AD ?_|refine AE ?_|refine AF rfl rfl ?_|refine AG rfl rfl ?_|refine AH ?_|refine AI ?_|refine AJ ?_|refine AK ?_|refine AL ?_|refine AM ?_|refine AN ?_|refine AO ?_|refine AP ?_|refine AQ rfl ?_|refine AR ?_|refine AS ?_|refine AT rfl ?_|refine AU rfl ?_
    rw [List.take_of_length_le (by omega)]
    exact ⟨rfl, rfl⟩
theorem rnamed_ok (hE : ∀ f e, E f = some e → e.plain) (hf : E 99 = some (.bc b_refNamed)) {h : Hp MD} (s : List UInt8) (hs : s.length ≤ 1099511627776) : WF (lim E) 99 [.str s] h fun a h' => h' = h ∧ a = .bool (MD.right s) := by
  refine wf_bc hE hf rfl ?_
  simp only [b_refNamed, List.map, getS]
  unfold MD.right
  by_cases h1 : 0 < s.length
  · rw [decide_eq_true h1]
    by_cases h2 : s.length ≤ 32
    · rw [decide_eq_true h2]
      repeat first|(refine BG ?_;first|(refine BH ?_;first|(refine BI ?_;refine BM ?_)|(refine BJ ?_;first|refine BN ?_|refine BO ?_)|refine BV (v_lens rfl) ?_|refine BP ?_)|(refine BK ?_;first|refine BS rfl rfl ?_|refine BT rfl rfl ?_|refine BU rfl ?_)|(refine BL ?_;first|refine BQ ?_)|(refine BR ?_;try simp only [setS]))|refine AA ?_|refine AC ?_|refine AD ?_|refine AE ?_|refine AF rfl rfl ?_|refine AG rfl rfl ?_|refine AH ?_|refine AI ?_|refine AJ ?_|refine AK ?_|refine AL ?_|refine AM ?_|refine AN ?_|refine AO ?_|refine AP ?_|refine AQ rfl ?_|refine AR ?_|refine AS ?_|refine AT rfl ?_|refine AU rfl ?_
      exact ⟨rfl, rfl⟩
    · rw [decide_eq_false h2]
      repeat first|(refine BG ?_;first|(refine BH ?_;first|(refine BI ?_;refine BM ?_)|(refine BJ ?_;first|refine BN ?_|refine BO ?_)|refine BV (v_lens rfl) ?_|refine BP ?_)|(refine BK ?_;first|refine BS rfl rfl ?_|refine BT rfl rfl ?_|refine BU rfl ?_)|(refine BL ?_;first|refine BQ ?_)|(refine BR ?_;try simp only [setS]))|refine AA ?_|refine AC ?_|refine AD ?_|refine AE ?_|refine AF rfl rfl ?_|refine AG rfl rfl ?_|refine AH ?_|refine AI ?_|refine AJ ?_|refine AK ?_|refine AL ?_|refine AM ?_|refine AN ?_|refine AO ?_|refine AP ?_|refine AQ rfl ?_|refine AR ?_|refine AS ?_|refine AT rfl ?_|refine AU rfl ?_
      exact ⟨rfl, rfl⟩
  · rw [decide_eq_false h1]
    repeat first|(refine BG ?_;first|(refine BH ?_;first|(refine BI ?_;refine BM ?_)|(refine BJ ?_;first|refine BN ?_|refine BO ?_)|refine BV (v_lens rfl) ?_|refine BP ?_)|(refine BK ?_;first|refine BS rfl rfl ?_|refine BT rfl rfl ?_|refine BU rfl ?_)|(refine BL ?_;first|refine BQ ?_)|(refine BR ?_;try simp only [setS]))|refine AA ?_|refine AC ?_|refine AD ?_|refine AE ?_|refine AF rfl rfl ?_|refine AG rfl rfl ?_|refine AH ?_|refine AI ?_|refine AJ ?_|refine AK ?_|refine AL ?_|refine AM ?_|refine AN ?_|refine AO ?_|refine AP ?_|refine AQ rfl ?_|refine AR ?_|refine AS ?_|refine AT rfl ?_|refine AU rfl ?_
    exact ⟨rfl, rfl⟩
theorem rgoes_ok (hE : ∀ f e, E f = some e → e.plain) (hf : E 100 = some (.bc b_refGoes)) {h : Hp MD} {r : Nat} {m : MD} {v : AV} (hb : Bx h r (diskC m v)) (ok : m.Ok) :
    WF (lim E) 100 [.ptr r 0] h fun a h' => a = .bool m.count.down ∧ Bx h' r (diskC m.count v) ∧ Keep (OneB r) h h' := by
  refine wf_bc hE hf rfl ?_
  simp only [b_refGoes, List.map, getS]
  have a0 := ok.arm0
  have a1 := ok.arm1
  cases hd : m.down with
  | true =>
    have e : m.count = m := ok.dead hd
    rw [e]
    have hb2 := hb
    unfold diskC at hb
    rw [hd] at hb
    repeat first|(refine BG ?_;first|(refine BH ?_;first|(refine BI ?_;refine BM ?_)|(refine BJ ?_;first|refine BN ?_|refine BO ?_)|refine BV (v_bx hb rfl rfl) ?_|refine BP ?_)|(refine BK ?_;first|refine BS rfl rfl ?_|refine BT rfl rfl ?_|refine BU rfl ?_)|(refine BL ?_;first|refine BQ ?_)|(refine BR ?_;try simp only [setS]))|refine AA ?_|refine AC ?_|refine AD ?_|refine AE ?_|refine AF rfl rfl ?_|refine AG rfl rfl ?_|refine AH ?_|refine AI ?_|refine AJ ?_|refine AK ?_|refine AL ?_|refine AM ?_|refine AN ?_|refine AO ?_|refine AP ?_|refine AQ rfl ?_|refine AR ?_|refine AS ?_|refine AT rfl ?_|refine AU rfl ?_
    exact ⟨by rw [hd]; rfl, hb2, Keep.refl _ _⟩
  | false =>
    have hb2 := hb
    unfold diskC at hb
    rw [hd] at hb
    by_cases hc : 0 < m.armed
    · have e : m.count = { m with armed := m.armed - 1, down := m.armed - 1 == 0 } := by unfold MD.count; rw [if_pos hc]
      repeat first|(refine BG ?_;first|(refine BH ?_;first|(refine BI ?_;refine BM ?_)|(refine BJ ?_;first|refine BN ?_|refine BO ?_)|refine BV (v_bx hb rfl rfl) ?_|refine BP ?_)|(refine BK ?_;first|refine BS rfl rfl ?_|refine BT rfl rfl ?_|refine BU rfl ?_)|(refine BL ?_;first|refine BW (ef_bx hb rfl rfl ⟨rfl, rfl⟩ (by exact Nat.le_of_ble_eq_true rfl)) ?_|refine BQ ?_)|(refine BR ?_;try simp only [setS]))|refine AA ?_|refine AC ?_|refine AD ?_|refine AE ?_|refine AF rfl rfl ?_|refine AG rfl rfl ?_|refine AH ?_|refine AI ?_|refine AJ ?_|refine AK ?_|refine AL ?_|refine AM ?_|refine AN ?_|refine AO ?_|refine AP ?_|refine AQ rfl ?_|refine AR ?_|refine AS ?_|refine AT rfl ?_|refine AU rfl ?_
      refine wr_heap (h' := h.put r (.rw [v, .int .i64 m.limit, .int .i64 (m.armed - 1), .bool false])) rfl ?_
      have k1 : Keep (OneB r) h (h.put r (.rw [v, .int .i64 m.limit, .int .i64 (m.armed - 1), .bool false])) := Keep.put _ _ _ rfl
      have b1 : Bx (h.put r (.rw [v, .int .i64 m.limit, .int .i64 (m.armed - 1), .bool false])) r [v, .int .i64 m.limit, .int .i64 (m.armed - 1), .bool false] := hb.put
      generalize h.put r (.rw [v, .int .i64 m.limit, .int .i64 (m.armed - 1), .bool false]) = h1 at *
      have e2 : (Mv.bin .eql .no (.env 23) (.const (.int .i64 0))).ev [(23, .int .i64 (m.armed - 1)), (22, .ptr r (0 + 2)), (21, .ptr r 0), (20, .ptr r 0), (19, .ptr r 0)] [.ptr r 0, .bool false, .bool false, .bool true] h1 = some (.bool (m.armed - 1 == 0)) := rfl
      repeat first|(refine BG ?_;first|(refine BH ?_;first|(refine BI ?_;refine BM ?_)|(refine BJ ?_;first|refine BN ?_|refine BO ?_)|refine BV (v_bx b1 rfl rfl) ?_|refine BV e2 ?_|refine BP ?_)|(refine BK ?_;first|refine BS rfl rfl ?_|refine BT rfl rfl ?_|refine BU rfl ?_)|(refine BL ?_;first|refine BW (ef_bx b1 rfl rfl ⟨rfl, rfl⟩ (by exact Nat.le_of_ble_eq_true rfl)) ?_|refine BQ ?_)|(refine BR ?_;try simp only [setS]))|refine AA ?_|refine AC ?_|refine AD ?_|refine AE ?_|refine AF rfl rfl ?_|refine AG rfl rfl ?_|refine AH ?_|refine AI ?_|refine AJ ?_|refine AK ?_|refine AL ?_|refine AM ?_|refine AN ?_|refine AO ?_|refine AP ?_|refine AQ rfl ?_|refine AR ?_|refine AS ?_|refine AT rfl ?_|refine AU rfl ?_
      refine wr_heap (h' := h1.put r (.rw [v, .int .i64 m.limit, .int .i64 (m.armed - 1), .bool (m.armed - 1 == 0)])) rfl ?_
      have k2 : Keep (OneB r) h1 (h1.put r (.rw [v, .int .i64 m.limit, .int .i64 (m.armed - 1), .bool (m.armed - 1 == 0)])) := Keep.put _ _ _ rfl
      have b2 : Bx (h1.put r (.rw [v, .int .i64 m.limit, .int .i64 (m.armed - 1), .bool (m.armed - 1 == 0)])) r [v, .int .i64 m.limit, .int .i64 (m.armed - 1), .bool (m.armed - 1 == 0)] := b1.put
      repeat first|(refine BG ?_;first|(refine BH ?_;first|(refine BI ?_;refine BM ?_)|(refine BJ ?_;first|refine BN ?_|refine BO ?_)|refine BV (v_bx b2 rfl rfl) ?_|refine BP ?_)|(refine BK ?_;first|refine BS rfl rfl ?_|refine BT rfl rfl ?_|refine BU rfl ?_)|(refine BL ?_;first|refine BQ ?_)|(refine BR ?_;try simp only [setS]))|refine AA ?_|refine AC ?_|refine AD ?_|refine AE ?_|refine AF rfl rfl ?_|refine AG rfl rfl ?_|refine AH ?_|refine AI ?_|refine AJ ?_|refine AK ?_|refine AL ?_|refine AM ?_|refine AN ?_|refine AO ?_|refine AP ?_|refine AQ rfl ?_|refine AR ?_|refine AS ?_|refine AT rfl ?_|refine AU rfl ?_
      rw [e]
      exact ⟨rfl, b2, k1.trans k2 (fun _ _ q => q)⟩
    · have e : m.count = m := by unfold MD.count; rw [if_neg hc]
      rw [e]
      repeat first|(refine BG ?_;first|(refine BH ?_;first|(refine BI ?_;refine BM ?_)|(refine BJ ?_;first|refine BN ?_|refine BO ?_)|refine BV (v_bx hb rfl rfl) ?_|refine BP ?_)|(refine BK ?_;first|refine BS rfl rfl ?_|refine BT rfl rfl ?_|refine BU rfl ?_)|(refine BL ?_;first|refine BQ ?_)|(refine BR ?_;try simp only [setS]))|refine AA ?_|refine AC ?_|refine AD ?_|refine AE ?_|refine AF rfl rfl ?_|refine AG rfl rfl ?_|refine AH ?_|refine AI ?_|refine AJ ?_|refine AK ?_|refine AL ?_|refine AM ?_|refine AN ?_|refine AO ?_|refine AP ?_|refine AQ rfl ?_|refine AR ?_|refine AS ?_|refine AT rfl ?_|refine AU rfl ?_
      exact ⟨by rw [hd]; rfl, hb2, Keep.refl _ _⟩
theorem rwithout_ok (hE : ∀ f e, E f = some e → e.plain) (hf : E 101 = some (.bc b_refWithout)) {h : Hp MD} {r : Nat} {m : MD} {v : AV} {qs : List QF} (hb : Bx h r (diskC m v)) (hl : LF h v qs r) (hn : qs.length ≤ 1000) (s : List UInt8) :
    WF (lim E) 101 [.ptr r 0, .str s] h fun a h' => ∃ v', Bx h' r (diskC m v') ∧ LF h' v' (qs.filter fun q => q.name != s) r ∧ (∀ k, blk v' k → h.n ≤ k) ∧ Keep (OneB r) h h' := by
  have hmx : (maxLen : Nat) = 9223372036854775807 := rfl
  have hrn := hb.lt
  refine wf_bc hE hf rfl ?_
  simp only [b_refWithout, List.map, getS]
  repeat first|(refine BG ?_;first|(refine BH ?_;first|(refine BI ?_;refine BM ?_)|(refine BJ ?_;first|refine BN ?_|refine BO ?_)|refine BP ?_)|(refine BK ?_;first|refine BS rfl rfl ?_|refine BT rfl rfl ?_|refine BU rfl ?_)|(refine BL ?_;first|refine BQ ?_)|(refine BR ?_;try simp only [setS]))|refine AA ?_|refine AC ?_|refine AD ?_|refine AE ?_|refine AF rfl rfl ?_|refine AG rfl rfl ?_|refine AH ?_|refine AI ?_|refine AJ ?_|refine AK ?_|refine AL ?_|refine AM ?_|refine AN ?_|refine AO ?_|refine AP ?_|refine AQ rfl ?_|refine AR ?_|refine AS ?_|refine AT rfl ?_|refine AU rfl ?_
  refine wb_loop (fun n t hh => ∃ (i : Nat) (vo s4 s5 : AV), i ≤ qs.length ∧ n = qs.length - i ∧ Keep NoB h hh ∧ LF hh vo ((qs.take i).filter fun q => q.name != s) r ∧ (∀ k, blk vo k → h.n ≤ k) ∧ t = [.ptr r 0, .str s, vo, .int .i64 i, s4, s5]) ?_ qs.length _ _ ⟨0, .snil, _, _, by omega, by omega, Keep.refl _ _, by rw [List.take_zero]; exact LF.nil, fun k q => q.elim, rfl⟩
  rintro n t hh ⟨i, vo, s4, s5, hi, hm, K, ho, hlo, rfl⟩
  have hb1 := hb.up K
  have hl1 := hl.up K
  have nK := K.n
  have hol : ((qs.take i).filter fun q => q.name != s).length ≤ i := Nat.le_trans (List.length_filter_le ..) (List.length_take_le ..)
  by_cases hlt : i < qs.length
  · obtain ⟨q, hq⟩ : ∃ q, qs[i]? = some q := ⟨_, List.getElem?_eq_getElem hlt⟩
    obtain ⟨g, o, ca, c0, c1, c2, c3⟩ := hl1.at hq
    have hfs := filter_s (fun q => q.name != s) hq
    by_cases hs : q.name = s
    · rw [show (q.name != s) = false by simp [hs]] at hfs
      repeat first|(refine BG ?_;first|(refine BH ?_;first|(refine BI ?_;refine BM ?_)|(refine BJ ?_;first|refine BN ?_|refine BO ?_)|refine BV (v_bx hb1 rfl rfl) ?_|refine BV (hl1.arr.rs.lenv (by rfl)) ?_|refine BV (ca rfl rfl) ?_|refine BV (c0 rfl) ?_|refine BV (v_sne_f rfl rfl hs) ?_|refine BP ?_)|(refine BK ?_;first|refine BS rfl rfl ?_|refine BT rfl rfl ?_|refine BU rfl ?_)|(refine BL ?_;first|refine BQ ?_)|(refine BR ?_;try simp only [setS]))|refine AA ?_|refine AC ?_|refine AD ?_|refine AE ?_|refine AF rfl rfl ?_|refine AG rfl rfl ?_|refine AH ?_|refine AI ?_|refine AJ ?_|refine AK ?_|refine AL ?_|refine AM ?_|refine AN ?_|refine AO ?_|refine AP ?_|refine AQ rfl ?_|refine AR ?_|refine AS ?_|refine AT rfl ?_|refine AU rfl ?_
      rw [show ((i : Int) + 1) = ((i + 1 : Nat) : Int) by omega]
      refine round_norm (n - 1) (by omega) ⟨i + 1, vo, _, _, by omega, by omega, K, ?_, hlo, rfl⟩
      rw [hfs]
      simpa using ho
    · rw [show (q.name != s) = true by simp [hs]] at hfs
      have hrow := hl.row q (List.mem_of_getElem? hq)
      have hrow1 := hl1.row q (List.mem_of_getElem? hq)
      obtain ⟨p1, p2, p3⟩ := ho.next hrow1.1 (fun k hk => ⟨(hrow1.2 k hk).1, fun q2 => by have := hlo k q2; have := hrow.1.lt k hk; omega⟩) (by omega)
      repeat first|(refine BG ?_;first|(refine BH ?_;first|(refine BI ?_;refine BM ?_)|(refine BJ ?_;first|refine BN ?_|refine BO ?_)|refine BV (v_bx hb1 rfl rfl) ?_|refine BV (hl1.arr.rs.lenv (by rfl)) ?_|refine BV (ca rfl rfl) ?_|refine BV (c0 rfl) ?_|refine BV (v_sne_t rfl rfl hs) ?_|refine BV (c3 rfl) ?_|refine BP ?_)|(refine BK ?_;first|refine BS rfl rfl ?_|refine BT rfl rfl ?_|refine BU rfl ?_)|(refine BL ?_;first|refine BW (ef_bsQ rfl hrow1.1.one.2) ?_|refine BQ ?_)|(refine BR ?_;try simp only [setS]))|refine AA ?_|refine AC ?_|refine AD ?_|refine AE ?_|refine AF rfl rfl ?_|refine AG rfl rfl ?_|refine AH ?_|refine AI ?_|refine AJ ?_|refine AK ?_|refine AL ?_|refine AM ?_|refine AN ?_|refine AO ?_|refine AP ?_|refine AQ rfl ?_|refine AR ?_|refine AS ?_|refine AT rfl ?_|refine AU rfl ?_
      refine wr_app_e rfl rfl p1 (by decide) p2 (by omega) (by omega) fun v' h' a1 a2 a3 => ?_
      obtain ⟨p4, p5⟩ := p3 v' h' a1 a2 a3
      repeat first|(refine BG ?_;first|(refine BH ?_;first|(refine BI ?_;refine BM ?_)|(refine BJ ?_;first|refine BN ?_|refine BO ?_)|refine BP ?_)|(refine BK ?_;first|refine BS rfl rfl ?_|refine BT rfl rfl ?_|refine BU rfl ?_)|(refine BL ?_;first|refine BQ ?_)|(refine BR ?_;try simp only [setS]))|refine AA ?_|refine AC ?_|refine AD ?_|refine AE ?_|refine AF rfl rfl ?_|refine AG rfl rfl ?_|refine AH ?_|refine AI ?_|refine AJ ?_|refine AK ?_|refine AL ?_|refine AM ?_|refine AN ?_|refine AO ?_|refine AP ?_|refine AQ rfl ?_|refine AR ?_|refine AS ?_|refine AT rfl ?_|refine AU rfl ?_
      rw [show ((i : Int) + 1) = ((i + 1 : Nat) : Int) by omega]
      refine round_norm (n - 1) (by omega) ⟨i + 1, v', _, _, by omega, by omega, K.own p5 hlo, ?_, fun k hk => ?_, rfl⟩
      · rw [hfs]
        exact p4
      · rcases a3 k hk with hk | hk
        · exact hlo k hk
        · simp only [push_n] at hk; omega
  · rw [List.take_of_length_le (by omega)] at ho
    repeat first|(refine BG ?_;first|(refine BH ?_;first|(refine BI ?_;refine BM ?_)|(refine BJ ?_;first|refine BN ?_|refine BO ?_)|refine BV (v_bx hb1 rfl rfl) ?_|refine BV (hl1.arr.rs.lenv (by rfl)) ?_|refine BP ?_)|(refine BK ?_;first|refine BS rfl rfl ?_|refine BT rfl rfl ?_|refine BU rfl ?_)|(refine BL ?_;first|refine BW (ef_bx hb1 rfl rfl ho.arr.one (by exact Nat.le_of_ble_eq_true rfl)) ?_|refine BQ ?_)|(refine BR ?_;try simp only [setS]))|refine AA ?_|refine AC ?_|refine AD ?_|refine AE ?_|refine AF rfl rfl ?_|refine AG rfl rfl ?_|refine AH ?_|refine AI ?_|refine AJ ?_|refine AK ?_|refine AL ?_|refine AM ?_|refine AN ?_|refine AO ?_|refine AP ?_|refine AQ rfl ?_|refine AR ?_|refine AS ?_|refine AT rfl ?_|refine AU rfl ?_
    refine ⟨vo, hb1.put, ho.keep (S := OneB r) (Keep.put _ _ _ rfl) (fun k q _ => Nat.le_of_eq q), hlo, K.any.trans (Keep.put hh r _ (S := OneB r) rfl) (fun _ _ q => q)⟩
end
end Am
end Go.Proofs.Ythgcdoahoechhaa
