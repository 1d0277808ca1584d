/- Package fold: what is done at each number; whether numbers are right. -/
import Derived.Test.YtkgplkddpigagaaQaD
set_option linter.unusedVariables false
set_option linter.unusedSimpArgs false
namespace Go.Proofs.Ytkgplkddpigagaa
namespace Am
open Go.RowKit
set_option maxRecDepth 100000
def b_foldRight : BF := ⟨9, [0, 2], (.seq (.reg [.mk none (.slot 1) (.mov (.mv (.const (.bool false))))]) (.seq (.reg [.mk none (.env 3) (.mov (.mv (.slot 0))), .mk none (.env 4) (.mov (.bin .geq .no (.env 3) (.const (.int .i64 1)))), .mk none (.env 5) (.mov (.mv (.env 4))), .mk (some ((.env 5), true)) (.env 6) (.mov (.mv (.slot 0))), .mk (some ((.env 5), true)) (.env 7) (.mov (.bin .leq .no (.env 6) (.const (.int .i64 7)))), .mk none (.env 8) (.mov (.pick (.env 5) (.env 7) (.const (.bool false)))), .mk none (.slot 1) (.mov (.mv (.env 8)))]) .ret)), [.slot (.slot 1)]⟩
def b_foldSteps : BF := ⟨22, [0, 2, 3, 4, 5, 9, 13, 18], (.seq (.reg [.mk none (.slot 1) (.mov (.mv (.const .nilf)))]) (.seq (.reg [.mk none (.slot 2) (.mov (.mv (.const (.func 56 []))))]) (.seq (.seq (.reg [.mk none (.slot 3) (.mov (.mv (.slot 0)))]) (.block 0 (.seq (.reg [.mk none (.env 6) (.mov (.bin .eql .no (.slot 3) (.const (.int .i64 2)))), .mk none (.slot 4) (.mov (.mv (.env 6)))]) (.cond (.slot 4) (.seq (.reg [.mk none (.env 7) (.mov (.mv (.slot 2))), .mk none (.env 8) (.calv (.env 7) [(.const (.func 58 []))]), .mk none (.slot 1) (.mov (.mv (.env 8)))]) .ret) (.seq (.reg [.mk none (.env 10) (.mov (.bin .eql .no (.slot 3) (.const (.int .i64 3)))), .mk none (.slot 5) (.mov (.mv (.env 10)))]) (.cond (.slot 5) (.seq (.reg [.mk none (.env 11) (.mov (.mv (.slot 2))), .mk none (.env 12) (.calv (.env 11) [(.const (.func 60 []))]), .mk none (.slot 1) (.mov (.mv (.env 12)))]) .ret) (.seq (.seq (.reg [.mk none (.env 14) (.mov (.bin .eql .no (.slot 3) (.const (.int .i64 6)))), .mk none (.slot 6) (.mov (.mv (.env 14)))]) (.cond (.slot 6) .skip (.reg [.mk none (.env 15) (.mov (.bin .eql .no (.slot 3) (.const (.int .i64 5)))), .mk none (.slot 6) (.mov (.mv (.env 15)))]))) (.cond (.slot 6) (.seq (.reg [.mk none (.env 16) (.mov (.mv (.slot 2))), .mk none (.env 17) (.calv (.env 16) [(.const (.func 61 []))]), .mk none (.slot 1) (.mov (.mv (.env 17)))]) .ret) (.seq (.reg [.mk none (.env 19) (.mov (.bin .eql .no (.slot 3) (.const (.int .i64 7)))), .mk none (.slot 7) (.mov (.mv (.env 19)))]) (.cond (.slot 7) (.seq (.reg [.mk none (.env 20) (.mov (.mv (.slot 2))), .mk none (.env 21) (.calv (.env 20) [(.const (.func 62 []))]), .mk none (.slot 1) (.mov (.mv (.env 21)))]) .ret) .skip)))))))))) (.seq (.reg [.mk none (.slot 1) (.mov (.mv (.const (.func 53 []))))]) .ret)))), [.slot (.slot 1)]⟩
def b_foldSteps1 : BF := ⟨4, [0, 1, 2], (.seq (.reg [.mk none (.slot 1) (.eff (.box (.slot 0))), .mk none (.slot 2) (.mov (.mv (.const .nilf)))]) (.seq (.reg [.mk none (.env 3) (.mov (.mkfn 57 [(.slot 1)])), .mk none (.slot 2) (.mov (.mv (.env 3)))]) .ret)), [.slot (.slot 2)]⟩
def b_foldSteps11 : BF := ⟨13, [0, 1, 2, 3, 4, 5, 6, 10], (.seq (.reg [.mk none (.slot 3) (.eff (.box (.slot 0))), .mk none (.slot 4) (.eff (.box (.slot 1))), .mk none (.slot 5) (.eff (.alloc [(.int .i64 0), (.int .i64 0)])), .mk none (.slot 6) (.mov (.mv (.const (.int .i64 0))))]) (.seq (.seq (.reg [.mk none (.env 7) (.mov (.ld1 (.slot 2))), .mk none (.env 8) (.mov (.ldn 2 (.slot 3))), .mk none (.env 9) (.mov (.ldn 2 (.slot 4))), .mk none (.slot 7) (.calv (.env 7) [(.env 8), (.env 9)])]) (.cond (.slot 7) (.seq (.reg [.mk none (.env 11) (.mov (.ldn 2 (.slot 4))), .mk none .none (.eff (.store 2 (.slot 5) (.env 11))), .mk none (.slot 6) (.mov (.mv (.const (.int .i64 0))))]) .ret) .skip)) (.seq (.reg [.mk none (.env 12) (.mov (.ldn 2 (.slot 3))), .mk none .none (.eff (.store 2 (.slot 5) (.env 12))), .mk none (.slot 6) (.mov (.mv (.const (.int .i64 0))))]) .ret))), [.celln 2 (.slot 5), .slot (.slot 6)]⟩
def b_foldSteps2 : BF := ⟨9, [0, 1, 2, 3, 4], (.seq (.reg [.mk none (.slot 2) (.eff (.box (.slot 0))), .mk none (.slot 3) (.eff (.box (.slot 1))), .mk none (.slot 4) (.mov (.mv (.const (.bool false))))]) (.seq (.reg [.mk none (.env 5) (.mov (.ldn 2 (.slot 3))), .mk none (.env 6) (.mov (.ldn 2 (.slot 2))), .mk none (.env 7) (.call 59 [(.env 5), (.env 6)]), .mk none (.env 8) (.mov (.bin .lss .no (.env 7) (.const (.int .i64 0)))), .mk none (.slot 4) (.mov (.mv (.env 8)))]) .ret)), [.slot (.slot 4)]⟩
def b_foldSteps3 : BF := ⟨9, [0, 1, 2, 3, 4], (.seq (.reg [.mk none (.slot 2) (.eff (.box (.slot 0))), .mk none (.slot 3) (.eff (.box (.slot 1))), .mk none (.slot 4) (.mov (.mv (.const (.bool false))))]) (.seq (.reg [.mk none (.env 5) (.mov (.ldn 2 (.slot 3))), .mk none (.env 6) (.mov (.ldn 2 (.slot 2))), .mk none (.env 7) (.call 59 [(.env 5), (.env 6)]), .mk none (.env 8) (.mov (.bin .gtr .no (.env 7) (.const (.int .i64 0)))), .mk none (.slot 4) (.mov (.mv (.env 8)))]) .ret)), [.slot (.slot 4)]⟩
def b_foldSteps4 : BF := ⟨5, [0, 1, 4], (.seq (.reg [.mk none (.env 2) (.eff (.box (.slot 0))), .mk none (.env 3) (.eff (.box (.slot 1))), .mk none (.slot 2) (.mov (.mv (.const (.bool false))))]) (.seq (.reg [.mk none (.slot 2) (.mov (.mv (.const (.bool false))))]) .ret)), [.slot (.slot 2)]⟩
def b_foldSteps5 : BF := ⟨5, [0, 1, 4], (.seq (.reg [.mk none (.env 2) (.eff (.box (.slot 0))), .mk none (.env 3) (.eff (.box (.slot 1))), .mk none (.slot 2) (.mov (.mv (.const (.bool false))))]) (.seq (.reg [.mk none (.slot 2) (.mov (.mv (.const (.bool true))))]) .ret)), [.slot (.slot 2)]⟩
def b_foldDo1 : BF := ⟨6, [0, 1, 2], (.seq (.reg [.mk none (.slot 1) (.eff (.box (.slot 0))), .mk none (.slot 2) (.mov (.mv (.const (.bool false))))]) (.seq (.reg [.mk none (.env 3) (.mov (.ldn 2 (.slot 1))), .mk none (.env 4) (.call 39 [(.env 3)]), .mk none (.env 5) (.mov (.notb (.env 4))), .mk none (.slot 2) (.mov (.mv (.env 5)))]) .ret)), [.slot (.slot 2)]⟩
def b_hasRats : BF := ⟨9, [0, 1, 4], (.seq (.reg [.mk none (.slot 2) (.mov (.mv (.const (.bool false))))]) (.seq (.reg [.mk none (.env 5) (.mov (.mv (.slot 0))), .mk none (.env 6) (.mov (.mv (.slot 1))), .mk none (.env 7) (.call 55 [(.env 5), (.env 6)]), .mk none (.env 8) (.mov (.bin .geq .no (.env 7) (.const (.int .i64 0)))), .mk none (.slot 2) (.mov (.mv (.env 8)))]) .ret)), [.slot (.slot 2)]⟩
def b_idxRats : BF := ⟨19, [0, 1, 4, 5, 7, 8, 9, 16], (.seq (.reg [.mk none (.slot 2) (.mov (.mv (.const (.int .i64 0))))]) (.seq (.seq (.reg [.mk none (.env 6) (.mov (.mv (.slot 0))), .mk none (.slot 4) (.mov (.lenv (.env 6))), .mk none (.slot 5) (.mov (.mv (.const (.int .i64 0))))]) (.block 0 (.loop (.seq (.reg [.mk none (.slot 6) (.mov (.bin .lss .no (.slot 5) (.slot 4)))]) (.seq (.cond (.slot 6) .skip (.exit 0)) (.seq (.block 1 (.seq (.reg [.mk none (.env 10) (.mov (.mv (.slot 5))), .mk none (.slot 3) (.mov (.mv (.env 10)))]) (.seq (.reg [.mk none (.env 11) (.mov (.mv (.slot 1))), .mk none (.env 12) (.mov (.mv (.slot 0))), .mk none (.env 13) (.mov (.mv (.slot 3))), .mk none (.env 14) (.mov (.iaddr 2 (.env 12) (.env 13))), .mk none (.env 15) (.mov (.ldn 2 (.env 14))), .mk none (.slot 7) (.calv (.env 11) [(.env 15)])]) (.cond (.slot 7) (.seq (.reg [.mk none (.env 17) (.mov (.mv (.slot 3))), .mk none (.slot 2) (.mov (.mv (.env 17)))]) .ret) .skip)))) (.reg [.mk none (.env 18) (.mov (.bin .add .no (.slot 5) (.const (.int .i64 1)))), .mk none (.slot 5) (.mov (.mv (.env 18)))]))))))) (.seq (.reg [.mk none (.slot 2) (.mov (.mv (.const (.int .i64 (-1)))))]) .ret))), [.slot (.slot 2)]⟩
def qc (q : QQ) : List AV := [.int .i64 q.1, .int .i64 q.2]
theorem qc_len (l : List QQ) : (l.flatMap qc).length = l.length * 2 := by
  induction l with
  | nil => rfl
  | cons q l ih => rw [List.flatMap_cons, List.length_append, ih, List.length_cons, Nat.succ_mul, Nat.add_comm]; rfl
theorem qc_row : ∀ {l : List QQ} {i : Nat} {q : QQ}, l[i]? = some q → ((l.flatMap qc).drop (i * 2)).take 2 = qc q
  | [], i, q, h => by simp at h
  | p :: l, 0, q, h => by
    simp at h; subst h
    rw [List.flatMap_cons, Nat.zero_mul, List.drop_zero]
    exact List.take_left (l₁ := qc p)
  | p :: l, i + 1, q, h => by
    simp at h
    rw [List.flatMap_cons]
    have e : (i + 1) * 2 = (qc p).length + i * 2 := by simp [qc]; omega
    rw [e, ← List.drop_drop, List.drop_left]
    exact qc_row h
section
variable {X : Type} {h h' : Hp X}
theorem RS.atR {n : Nat} {v : AV} {l : List QQ} (a : RS h 2 v n (l.flatMap qc)) {i : Nat} {q : QQ} (hi : l[i]? = some q) : ∃ g o, (∀ {hh : Hp X} {e : En} {t : List AV} {x y : Od} {k : IntKind}, x.ev e t = v → y.ev e t = .int k (i : Int) → (Mv.iaddr 2 x y).ev e t hh = some (.ptr g o)) ∧
    (∀ {hh : Hp X} {e : En} {t : List AV} {x : Od}, Keep NoB h hh → x.ev e t = .ptr g o → (Mv.ldn 2 x).ev e t hh = some (qv q)) := by
  have hlen := a.len
  rw [qc_len] at hlen
  have hil := (List.getElem?_eq_some_iff.1 hi).1
  have hin : i < n := by omega
  cases v <;> first | exact a.elim | skip
  · rename_i z g o m cap
    obtain ⟨rfl, rfl, hg, ll, hl, hle, hc⟩ := a
    have hrow := qc_row hi
    rw [hc, List.drop_take, List.take_take, List.drop_drop, Nat.min_eq_left (by omega)] at hrow
    refine ⟨g, o + i * 2, fun {hh e t x y k} hx hy => ?_, fun {hh e t x} hk hx => ?_⟩
    · simp only [Mv.ev, hx, hy, nOf]
      rw [show Nat.blt i m = true by rw [Nat.blt_eq]; exact hin]
      rfl
    · simp only [Mv.ev, hx, AV.onPtr]
      rw [rowOf_get (hk.get g hg (fun q => q)), hl]
      unfold takeN
      have hb : (o + i * 2 + 2).ble ll.length = true := ble_t (by omega)
      simp only [hb, cond_true, hrow]
      rfl
  · obtain ⟨rfl, _⟩ := a; omega
  · obtain ⟨rfl, _⟩ := a; omega
structure Rats (h : Hp X) (v : AV) (l : List QQ) : Prop where
  rs : RS h 2 v l.length (l.flatMap qc)
  len : l.length ≤ 1000000
  row : ∀ q ∈ l, I64Q q
theorem Rats.up {v : AV} {l : List QQ} (a : Rats h v l) (k : Keep NoB h h') : Rats h' v l := ⟨a.rs.up k, a.len, a.row⟩
theorem wr_calv_s {D : Dp X} {l : List St1} {k f : Nat} {e : En} {t : List AV} {Q : R X → Prop} {cs : List AV} {x : Od} {xs : List Od} {args : List AV} (hx : x.ev e t = .func f cs) (ha : (xs.map fun x => x.ev e t) = args) (H : WF D f (args ++ cs) h fun v h' => WR D l e (setS t k v) h' Q) : WR D (.mk none (.slot k) (.calv x xs) :: l) e t h Q := by
  obtain ⟨v, h', hf, ⟨r, h1, h2, h3⟩⟩ := H.out
  subst ha
  refine ⟨⟨r, ?_, h2, h3⟩⟩
  simp only [runRg, gdv, gdR, Op1.run, hx, hf, stepR]
  exact h1
end
def stepF (how : Int) (a b : QQ) : QQ × Int := if how = 2 then (if cmpF b a < 0 then b else a, 0) else if how = 3 then (if 0 < cmpF b a then b else a, 0) else if how = 5 ∨ how = 6 then (a, 0) else if how = 7 then (b, 0) else addF a b
section
variable {X : Type} {E : Nat → Option (Ent X)}
structure QaF (E : Nat → Option (Ent X)) : Prop extends QaS E where
  fright : E 22 = some (.bc b_foldRight)
  steps : E 42 = some (.bc b_foldSteps)
  steps1 : E 56 = some (.bc b_foldSteps1)
  steps11 : E 57 = some (.bc b_foldSteps11)
  steps2 : E 58 = some (.bc b_foldSteps2)
  steps3 : E 60 = some (.bc b_foldSteps3)
  steps4 : E 61 = some (.bc b_foldSteps4)
  steps5 : E 62 = some (.bc b_foldSteps5)
  fdo1 : E 41 = some (.bc b_foldDo1)
  hasR : E 40 = some (.bc b_hasRats)
  idxR : E 55 = some (.bc b_idxRats)
theorem fright_ok (hE : ∀ f e, E f = some e → e.plain) (T : QaF E) {h : Hp X} (how : Int) : WF (lim E) 22 [.int .i64 how] h fun x h' => h' = h ∧ x = .bool (decide (1 ≤ how) && decide (how ≤ 7)) := by
  refine wf_bc hE T.fright rfl ?_
  simp only [b_foldRight, List.map, getS]
  by_cases h1 : 1 ≤ how
  · rw [decide_eq_true h1]
    by_cases h2 : how ≤ 7
    · rw [decide_eq_true h2]
      repeat first|(refine BG ?_;first|(refine BH ?_;first|(refine BI ?_;refine BM ?_)|(refine BJ ?_;first|refine BN ?_|refine BO ?_)|refine BP ?_)|(refine BK ?_;first|refine BS rfl rfl ?_|refine BT rfl rfl ?_|refine BU rfl ?_)|(refine BL ?_;first|refine BQ ?_)|(refine BR ?_;try simp only [setS]))|refine AA ?_|refine AC ?_|refine AD ?_|refine AE ?_|refine AF rfl rfl ?_|refine AG rfl rfl ?_|refine AH ?_|refine AI ?_|refine AJ ?_|refine AK ?_|refine AL ?_|refine AM ?_|refine AN ?_|refine AO ?_|refine AP ?_|refine AQ rfl ?_|refine AR ?_|refine AS ?_|refine AT rfl ?_|refine AU rfl ?_
      exact ⟨rfl, rfl⟩
    · rw [decide_eq_false h2]
      repeat first|(refine BG ?_;first|(refine BH ?_;first|(refine BI ?_;refine BM ?_)|(refine BJ ?_;first|refine BN ?_|refine BO ?_)|refine BP ?_)|(refine BK ?_;first|refine BS rfl rfl ?_|refine BT rfl rfl ?_|refine BU rfl ?_)|(refine BL ?_;first|refine BQ ?_)|(refine BR ?_;try simp only [setS]))|refine AA ?_|refine AC ?_|refine AD ?_|refine AE ?_|refine AF rfl rfl ?_|refine AG rfl rfl ?_|refine AH ?_|refine AI ?_|refine AJ ?_|refine AK ?_|refine AL ?_|refine AM ?_|refine AN ?_|refine AO ?_|refine AP ?_|refine AQ rfl ?_|refine AR ?_|refine AS ?_|refine AT rfl ?_|refine AU rfl ?_
      exact ⟨rfl, rfl⟩
  · rw [decide_eq_false h1]
    repeat first|(refine BG ?_;first|(refine BH ?_;first|(refine BI ?_;refine BM ?_)|(refine BJ ?_;first|refine BN ?_|refine BO ?_)|refine BP ?_)|(refine BK ?_;first|refine BS rfl rfl ?_|refine BT rfl rfl ?_|refine BU rfl ?_)|(refine BL ?_;first|refine BQ ?_)|(refine BR ?_;try simp only [setS]))|refine AA ?_|refine AC ?_|refine AD ?_|refine AE ?_|refine AF rfl rfl ?_|refine AG rfl rfl ?_|refine AH ?_|refine AI ?_|refine AJ ?_|refine AK ?_|refine AL ?_|refine AM ?_|refine AN ?_|refine AO ?_|refine AP ?_|refine AQ rfl ?_|refine AR ?_|refine AS ?_|refine AT rfl ?_|refine AU rfl ?_
    exact ⟨rfl, rfl⟩
theorem steps2_ok (hE : ∀ f e, E f = some e → e.plain) (T : QaF E) {h : Hp X} {a b : QQ} (ha : I64Q a) (hb : I64Q b) : WF (lim E) 58 [qv a, qv b] h fun x h' => Keep NoB h h' ∧ x = .bool (decide (cmpF b a < 0)) := by
  refine wf_bc hE T.steps2 rfl ?_
  simp only [b_foldSteps2, List.map, getS]
  obtain ⟨bA, bB, kp⟩ := box2 h [.int .i64 a.1, .int .i64 a.2] [.int .i64 b.1, .int .i64 b.2]
  repeat first|(refine BG ?_;first|(refine BH ?_;first|(refine BI ?_;refine BM ?_)|(refine BJ ?_;first|refine BN ?_|refine BO ?_)|refine BV (v_bxn bA rfl (Nat.le_refl _)) ?_|refine BV (v_bxn bB rfl (Nat.le_refl _)) ?_|refine BP ?_)|(refine BK ?_;first|refine BS rfl rfl ?_|refine BT rfl rfl ?_|refine BU rfl ?_)|(refine BL ?_;first|refine BW (ef_box rfl int_all2) ?_|refine BQ ?_)|(refine BR ?_;try simp only [setS]))|refine AA ?_|refine AC ?_|refine AD ?_|refine AE ?_|refine AF rfl rfl ?_|refine AG rfl rfl ?_|refine AH ?_|refine AI ?_|refine AJ ?_|refine AK ?_|refine AL ?_|refine AM ?_|refine AN ?_|refine AO ?_|refine AP ?_|refine AQ rfl ?_|refine AR ?_|refine AS ?_|refine AT rfl ?_|refine AU rfl ?_
  refine wr_call_e rfl ((cmpq_ok hE T.toQaS hb ha).mono fun x h4 ⟨k4, e4⟩ => ?_)
  subst e4
  repeat first|(refine BG ?_;first|(refine BH ?_;first|(refine BI ?_;refine BM ?_)|(refine BJ ?_;first|refine BN ?_|refine BO ?_)|refine BV (v_cmp rfl rfl rfl) ?_|refine BP ?_)|(refine BK ?_;first|refine BS rfl rfl ?_|refine BT rfl rfl ?_|refine BU rfl ?_)|(refine BL ?_;first|refine BQ ?_)|(refine BR ?_;try simp only [setS]))|refine AA ?_|refine AC ?_|refine AD ?_|refine AE ?_|refine AF rfl rfl ?_|refine AG rfl rfl ?_|refine AH ?_|refine AI ?_|refine AJ ?_|refine AK ?_|refine AL ?_|refine AM ?_|refine AN ?_|refine AO ?_|refine AP ?_|refine AQ rfl ?_|refine AR ?_|refine AS ?_|refine AT rfl ?_|refine AU rfl ?_
  exact ⟨kp.and k4, rfl⟩
theorem steps3_ok (hE : ∀ f e, E f = some e → e.plain) (T : QaF E) {h : Hp X} {a b : QQ} (ha : I64Q a) (hb : I64Q b) : WF (lim E) 60 [qv a, qv b] h fun x h' => Keep NoB h h' ∧ x = .bool (decide (0 < cmpF b a)) := by
  refine wf_bc hE T.steps3 rfl ?_
  simp only [b_foldSteps3, List.map, getS]
  obtain ⟨bA, bB, kp⟩ := box2 h [.int .i64 a.1, .int .i64 a.2] [.int .i64 b.1, .int .i64 b.2]
  repeat first|(refine BG ?_;first|(refine BH ?_;first|(refine BI ?_;refine BM ?_)|(refine BJ ?_;first|refine BN ?_|refine BO ?_)|refine BV (v_bxn bA rfl (Nat.le_refl _)) ?_|refine BV (v_bxn bB rfl (Nat.le_refl _)) ?_|refine BP ?_)|(refine BK ?_;first|refine BS rfl rfl ?_|refine BT rfl rfl ?_|refine BU rfl ?_)|(refine BL ?_;first|refine BW (ef_box rfl int_all2) ?_|refine BQ ?_)|(refine BR ?_;try simp only [setS]))|refine AA ?_|refine AC ?_|refine AD ?_|refine AE ?_|refine AF rfl rfl ?_|refine AG rfl rfl ?_|refine AH ?_|refine AI ?_|refine AJ ?_|refine AK ?_|refine AL ?_|refine AM ?_|refine AN ?_|refine AO ?_|refine AP ?_|refine AQ rfl ?_|refine AR ?_|refine AS ?_|refine AT rfl ?_|refine AU rfl ?_
  refine wr_call_e rfl ((cmpq_ok hE T.toQaS hb ha).mono fun x h4 ⟨k4, e4⟩ => ?_)
  subst e4
  repeat first|(refine BG ?_;first|(refine BH ?_;first|(refine BI ?_;refine BM ?_)|(refine BJ ?_;first|refine BN ?_|refine BO ?_)|refine BV (v_cmp rfl rfl rfl) ?_|refine BP ?_)|(refine BK ?_;first|refine BS rfl rfl ?_|refine BT rfl rfl ?_|refine BU rfl ?_)|(refine BL ?_;first|refine BQ ?_)|(refine BR ?_;try simp only [setS]))|refine AA ?_|refine AC ?_|refine AD ?_|refine AE ?_|refine AF rfl rfl ?_|refine AG rfl rfl ?_|refine AH ?_|refine AI ?_|refine AJ ?_|refine AK ?_|refine AL ?_|refine AM ?_|refine AN ?_|refine AO ?_|refine AP ?_|refine AQ rfl ?_|refine AR ?_|refine AS ?_|refine AT rfl ?_|refine AU rfl ?_
  exact ⟨kp.and k4, rfl⟩
theorem steps4_ok (hE : ∀ f e, E f = some e → e.plain) (T : QaF E) {h : Hp X} {a b : QQ} : WF (lim E) 61 [qv a, qv b] h fun x h' => Keep NoB h h' ∧ x = .bool false := by
  refine wf_bc hE T.steps4 rfl ?_
  simp only [b_foldSteps4, List.map, getS]
  obtain ⟨bA, bB, kp⟩ := box2 h [.int .i64 a.1, .int .i64 a.2] [.int .i64 b.1, .int .i64 b.2]
  repeat first|(refine BG ?_;first|(refine BH ?_;first|(refine BI ?_;refine BM ?_)|(refine BJ ?_;first|refine BN ?_|refine BO ?_)|refine BP ?_)|(refine BK ?_;first|refine BS rfl rfl ?_|refine BT rfl rfl ?_|refine BU rfl ?_)|(refine BL ?_;first|refine BW (ef_box rfl int_all2) ?_|refine BQ ?_)|(refine BR ?_;try simp only [setS]))|refine AA ?_|refine AC ?_|refine AD ?_|refine AE ?_|refine AF rfl rfl ?_|refine AG rfl rfl ?_|refine AH ?_|refine AI ?_|refine AJ ?_|refine AK ?_|refine AL ?_|refine AM ?_|refine AN ?_|refine AO ?_|refine AP ?_|refine AQ rfl ?_|refine AR ?_|refine AS ?_|refine AT rfl ?_|refine AU rfl ?_
  exact ⟨kp, rfl⟩
theorem steps5_ok (hE : ∀ f e, E f = some e → e.plain) (T : QaF E) {h : Hp X} {a b : QQ} : WF (lim E) 62 [qv a, qv b] h fun x h' => Keep NoB h h' ∧ x = .bool true := by
  refine wf_bc hE T.steps5 rfl ?_
  simp only [b_foldSteps5, List.map, getS]
  obtain ⟨bA, bB, kp⟩ := box2 h [.int .i64 a.1, .int .i64 a.2] [.int .i64 b.1, .int .i64 b.2]
  repeat first|(refine BG ?_;first|(refine BH ?_;first|(refine BI ?_;refine BM ?_)|(refine BJ ?_;first|refine BN ?_|refine BO ?_)|refine BP ?_)|(refine BK ?_;first|refine BS rfl rfl ?_|refine BT rfl rfl ?_|refine BU rfl ?_)|(refine BL ?_;first|refine BW (ef_box rfl int_all2) ?_|refine BQ ?_)|(refine BR ?_;try simp only [setS]))|refine AA ?_|refine AC ?_|refine AD ?_|refine AE ?_|refine AF rfl rfl ?_|refine AG rfl rfl ?_|refine AH ?_|refine AI ?_|refine AJ ?_|refine AK ?_|refine AL ?_|refine AM ?_|refine AN ?_|refine AO ?_|refine AP ?_|refine AQ rfl ?_|refine AR ?_|refine AS ?_|refine AT rfl ?_|refine AU rfl ?_
  exact ⟨kp, rfl⟩
theorem steps11_ok (hE : ∀ f e, E f = some e → e.plain) (T : QaF E) {h : Hp X} {a b : QQ} {g f : Nat} {c : Bool} (hb : Bx h g [.func f []]) (hf : ∀ hh : Hp X, WF (lim E) f [qv a, qv b] hh fun x h' => Keep NoB hh h' ∧ x = .bool c) :
    WF (lim E) 57 [qv a, qv b, .ptr g 0] h fun x h' => Keep NoB h h' ∧ x = qe (if c = true then b else a, 0) := by
  refine wf_bc hE T.steps11 rfl ?_
  simp only [b_foldSteps11, List.map, getS]
  obtain ⟨bA, bB, bC, kp, hn3⟩ := box3 h [.int .i64 a.1, .int .i64 a.2] [.int .i64 b.1, .int .i64 b.2] [.int .i64 0, .int .i64 0]
  have hb3 := hb.up kp
  have fin0 : ∀ {hh : Hp X} (K : Keep NoB h hh) {q : QQ}, Keep NoB h (hh.put ((h.push (.rw [.int .i64 a.1, .int .i64 a.2])).push (.rw [.int .i64 b.1, .int .i64 b.2])).n (.rw [.int .i64 q.1, .int .i64 q.2])) := fun {hh} K {q} =>
    K.own (Keep.put _ _ _ (S := OneB (((h.push (.rw [.int .i64 a.1, .int .i64 a.2])).push (.rw [.int .i64 b.1, .int .i64 b.2])).n)) rfl) (fun k q => by have q : k = h.n + 2 := q; omega)
  repeat first|(refine BG ?_;first|(refine BH ?_;first|(refine BI ?_;refine BM ?_)|(refine BJ ?_;first|refine BN ?_|refine BO ?_)|refine BV (v_bx hb3 rfl rfl) ?_|refine BV (v_bxn bA rfl (Nat.le_refl _)) ?_|refine BV (v_bxn bB rfl (Nat.le_refl _)) ?_|refine BP ?_)|(refine BK ?_;first|refine BS rfl rfl ?_|refine BT rfl rfl ?_|refine BU rfl ?_)|(refine BL ?_;first|refine BW (ef_box rfl int_all2) ?_|refine BQ ?_)|(refine BR ?_;try simp only [setS]))|refine AA ?_|refine AC ?_|refine AD ?_|refine AE ?_|refine AF rfl rfl ?_|refine AG rfl rfl ?_|refine AH ?_|refine AI ?_|refine AJ ?_|refine AK ?_|refine AL ?_|refine AM ?_|refine AN ?_|refine AO ?_|refine AP ?_|refine AQ rfl ?_|refine AR ?_|refine AS ?_|refine AT rfl ?_|refine AU rfl ?_
  refine wr_calv_s rfl rfl ((hf _).mono fun x h4 ⟨k4, e4⟩ => ?_)
  subst e4
  have bA := bA.up k4
  have bB := bB.up k4
  have bC := bC.up k4
  have K4 := kp.and k4
  simp only [setS]
  cases c with
  | true =>
    repeat first|(refine BG ?_;first|(refine BH ?_;first|(refine BI ?_;refine BM ?_)|(refine BJ ?_;first|refine BN ?_|refine BO ?_)|refine BV (v_bxn bB rfl (Nat.le_refl _)) ?_|refine BP ?_)|(refine BK ?_;first|refine BS rfl rfl ?_|refine BT rfl rfl ?_|refine BU rfl ?_)|(refine BL ?_;first|refine BW (ef_bxn bC rfl rfl rfl rfl (Nat.le_refl _)) ?_|refine BQ ?_)|(refine BR ?_;try simp only [setS]))|refine AA ?_|refine AC ?_|refine AD ?_|refine AE ?_|refine AF rfl rfl ?_|refine AG rfl rfl ?_|refine AH ?_|refine AI ?_|refine AJ ?_|refine AK ?_|refine AL ?_|refine AM ?_|refine AN ?_|refine AO ?_|refine AP ?_|refine AQ rfl ?_|refine AR ?_|refine AS ?_|refine AT rfl ?_|refine AU rfl ?_
    exact fin_q (q := b) (er := 0) bC.put rfl rfl ⟨fin0 K4 (q := b), rfl⟩
  | false =>
    repeat first|(refine BG ?_;first|(refine BH ?_;first|(refine BI ?_;refine BM ?_)|(refine BJ ?_;first|refine BN ?_|refine BO ?_)|refine BV (v_bxn bA rfl (Nat.le_refl _)) ?_|refine BP ?_)|(refine BK ?_;first|refine BS rfl rfl ?_|refine BT rfl rfl ?_|refine BU rfl ?_)|(refine BL ?_;first|refine BW (ef_bxn bC rfl rfl rfl rfl (Nat.le_refl _)) ?_|refine BQ ?_)|(refine BR ?_;try simp only [setS]))|refine AA ?_|refine AC ?_|refine AD ?_|refine AE ?_|refine AF rfl rfl ?_|refine AG rfl rfl ?_|refine AH ?_|refine AI ?_|refine AJ ?_|refine AK ?_|refine AL ?_|refine AM ?_|refine AN ?_|refine AO ?_|refine AP ?_|refine AQ rfl ?_|refine AR ?_|refine AS ?_|refine AT rfl ?_|refine AU rfl ?_
    exact fin_q (q := a) (er := 0) bC.put rfl rfl ⟨fin0 K4 (q := a), rfl⟩
theorem steps1_ok (hE : ∀ f e, E f = some e → e.plain) (T : QaF E) {h : Hp X} {f : Nat} : WF (lim E) 56 [.func f []] h fun x h' => Keep NoB h h' ∧ ∃ g, x = .func 57 [.ptr g 0] ∧ Bx h' g [.func f []] ∧ h.n ≤ g := by
  refine wf_bc hE T.steps1 rfl ?_
  simp only [b_foldSteps1, List.map, getS]
  repeat first|(refine BG ?_;first|(refine BH ?_;first|(refine BI ?_;refine BM ?_)|(refine BJ ?_;first|refine BN ?_|refine BO ?_)|refine BP ?_)|(refine BK ?_;first|refine BS rfl rfl ?_|refine BT rfl rfl ?_|refine BU rfl ?_)|(refine BL ?_;first|refine BQ ?_)|(refine BR ?_;try simp only [setS]))|refine AA ?_|refine AC ?_|refine AD ?_|refine AE ?_|refine AF rfl rfl ?_|refine AG rfl rfl ?_|refine AH ?_|refine AI ?_|refine AJ ?_|refine AK ?_|refine AL ?_|refine AM ?_|refine AN ?_|refine AO ?_|refine AP ?_|refine AQ rfl ?_|refine AR ?_|refine AS ?_|refine AT rfl ?_|refine AU rfl ?_
  exact ⟨Keep.push _ _ _, h.n, rfl, bx_push, Nat.le_refl _⟩
structure StepV (E : Nat → Option (Ent X)) (h : Hp X) (v : AV) (how : Int) (lo : Nat) : Prop where
  out : ∃ f cs, v = .func f cs ∧ ∀ (hh : Hp X), Keep (fun k => k < lo) h hh → ∀ (a b : QQ), I64Q a → I64Q b → WF (lim E) f ([qv a, qv b] ++ cs) hh fun y h2 => Keep NoB hh h2 ∧ y = qe (stepF how a b)
theorem StepV.up {h h' : Hp X} {v : AV} {how : Int} {lo : Nat} (a : StepV E h v how lo) {S : Nat → Prop} (k : Keep S h h') (hs : ∀ k, S k → k < lo) : StepV E h' v how lo := by
  obtain ⟨f, cs, e, H⟩ := a.out
  exact ⟨f, cs, e, fun hh k2 => H hh ((k.mono (T := fun k => k < lo) fun g _ q => hs g q).trans k2 fun _ _ q => q)⟩
theorem steps_ok (hE : ∀ f e, E f = some e → e.plain) (T : QaF E) {h : Hp X} (how : Int) : WF (lim E) 42 [.int .i64 how] h fun x h' => Keep NoB h h' ∧ StepV E h' x how h.n := by
  refine wf_bc hE T.steps rfl ?_
  simp only [b_foldSteps, List.map, getS]
  have mk : ∀ {f : Nat} {c : QQ → QQ → Bool} {h1 : Hp X} {g : Nat}, Bx h1 g [.func f []] → h.n ≤ g → (∀ a b : QQ, I64Q a → I64Q b → ∀ hh : Hp X, WF (lim E) f [qv a, qv b] hh fun x h' => Keep NoB hh h' ∧ x = .bool (c a b)) → (∀ a b, stepF how a b = (if c a b = true then b else a, 0)) → StepV E h1 (.func 57 [.ptr g 0]) how h.n := fun {f c h1 g} hb hg hf hs =>
    ⟨_, _, rfl, fun hh k a b ha hb' => by
      rw [hs a b]
      exact steps11_ok hE T (hb.keep k (fun q => by have q : g < h.n := q; omega)) (hf a b ha hb')⟩
  by_cases h2 : how = 2
  · subst h2
    repeat first|(refine BG ?_;first|(refine BH ?_;first|(refine BI ?_;refine BM ?_)|(refine BJ ?_;first|refine BN ?_|refine BO ?_)|refine BP ?_)|(refine BK ?_;first|refine BS rfl rfl ?_|refine BT rfl rfl ?_|refine BU rfl ?_)|(refine BL ?_;first|refine BQ ?_)|(refine BR ?_;try simp only [setS]))|refine AA ?_|refine AC ?_|refine AD ?_|refine AE ?_|refine AF rfl rfl ?_|refine AG rfl rfl ?_|refine AH ?_|refine AI ?_|refine AJ ?_|refine AK ?_|refine AL ?_|refine AM ?_|refine AN ?_|refine AO ?_|refine AP ?_|refine AQ rfl ?_|refine AR ?_|refine AS ?_|refine AT rfl ?_|refine AU rfl ?_
    refine wr_calv rfl rfl ((steps1_ok hE T).mono fun x h1 ⟨k1, g, e1, b1, g1⟩ => ?_)
    subst e1
    repeat first|(refine BG ?_;first|(refine BH ?_;first|(refine BI ?_;refine BM ?_)|(refine BJ ?_;first|refine BN ?_|refine BO ?_)|refine BP ?_)|(refine BK ?_;first|refine BS rfl rfl ?_|refine BT rfl rfl ?_|refine BU rfl ?_)|(refine BL ?_;first|refine BQ ?_)|(refine BR ?_;try simp only [setS]))|refine AA ?_|refine AC ?_|refine AD ?_|refine AE ?_|refine AF rfl rfl ?_|refine AG rfl rfl ?_|refine AH ?_|refine AI ?_|refine AJ ?_|refine AK ?_|refine AL ?_|refine AM ?_|refine AN ?_|refine AO ?_|refine AP ?_|refine AQ rfl ?_|refine AR ?_|refine AS ?_|refine AT rfl ?_|refine AU rfl ?_
    exact ⟨k1, mk (c := fun a b => decide (cmpF b a < 0)) b1 g1 (fun a b ha hb hh => steps2_ok hE T ha hb) (fun a b => by unfold stepF; rw [if_pos rfl]; simp)⟩
  by_cases h3 : how = 3
  · subst h3
    repeat first|(refine BG ?_;first|(refine BH ?_;first|(refine BI ?_;refine BM ?_)|(refine BJ ?_;first|refine BN ?_|refine BO ?_)|refine BP ?_)|(refine BK ?_;first|refine BS rfl rfl ?_|refine BT rfl rfl ?_|refine BU rfl ?_)|(refine BL ?_;first|refine BQ ?_)|(refine BR ?_;try simp only [setS]))|refine AA ?_|refine AC ?_|refine AD ?_|refine AE ?_|refine AF rfl rfl ?_|refine AG rfl rfl ?_|refine AH ?_|refine AI ?_|refine AJ ?_|refine AK ?_|refine AL ?_|refine AM ?_|refine AN ?_|refine AO ?_|refine AP ?_|refine AQ rfl ?_|refine AR ?_|refine AS ?_|refine AT rfl ?_|refine AU rfl ?_
    refine wr_calv rfl rfl ((steps1_ok hE T).mono fun x h1 ⟨k1, g, e1, b1, g1⟩ => ?_)
    subst e1
    repeat first|(refine BG ?_;first|(refine BH ?_;first|(refine BI ?_;refine BM ?_)|(refine BJ ?_;first|refine BN ?_|refine BO ?_)|refine BP ?_)|(refine BK ?_;first|refine BS rfl rfl ?_|refine BT rfl rfl ?_|refine BU rfl ?_)|(refine BL ?_;first|refine BQ ?_)|(refine BR ?_;try simp only [setS]))|refine AA ?_|refine AC ?_|refine AD ?_|refine AE ?_|refine AF rfl rfl ?_|refine AG rfl rfl ?_|refine AH ?_|refine AI ?_|refine AJ ?_|refine AK ?_|refine AL ?_|refine AM ?_|refine AN ?_|refine AO ?_|refine AP ?_|refine AQ rfl ?_|refine AR ?_|refine AS ?_|refine AT rfl ?_|refine AU rfl ?_
    exact ⟨k1, mk (c := fun a b => decide (0 < cmpF b a)) b1 g1 (fun a b ha hb hh => steps3_ok hE T ha hb) (fun a b => by unfold stepF; rw [if_neg (by decide), if_pos rfl]; simp)⟩
  by_cases h6 : how = 6
  · subst h6
    repeat first|(refine BG ?_;first|(refine BH ?_;first|(refine BI ?_;refine BM ?_)|(refine BJ ?_;first|refine BN ?_|refine BO ?_)|refine BP ?_)|(refine BK ?_;first|refine BS rfl rfl ?_|refine BT rfl rfl ?_|refine BU rfl ?_)|(refine BL ?_;first|refine BQ ?_)|(refine BR ?_;try simp only [setS]))|refine AA ?_|refine AC ?_|refine AD ?_|refine AE ?_|refine AF rfl rfl ?_|refine AG rfl rfl ?_|refine AH ?_|refine AI ?_|refine AJ ?_|refine AK ?_|refine AL ?_|refine AM ?_|refine AN ?_|refine AO ?_|refine AP ?_|refine AQ rfl ?_|refine AR ?_|refine AS ?_|refine AT rfl ?_|refine AU rfl ?_
    refine wr_calv rfl rfl ((steps1_ok hE T).mono fun x h1 ⟨k1, g, e1, b1, g1⟩ => ?_)
    subst e1
    repeat first|(refine BG ?_;first|(refine BH ?_;first|(refine BI ?_;refine BM ?_)|(refine BJ ?_;first|refine BN ?_|refine BO ?_)|refine BP ?_)|(refine BK ?_;first|refine BS rfl rfl ?_|refine BT rfl rfl ?_|refine BU rfl ?_)|(refine BL ?_;first|refine BQ ?_)|(refine BR ?_;try simp only [setS]))|refine AA ?_|refine AC ?_|refine AD ?_|refine AE ?_|refine AF rfl rfl ?_|refine AG rfl rfl ?_|refine AH ?_|refine AI ?_|refine AJ ?_|refine AK ?_|refine AL ?_|refine AM ?_|refine AN ?_|refine AO ?_|refine AP ?_|refine AQ rfl ?_|refine AR ?_|refine AS ?_|refine AT rfl ?_|refine AU rfl ?_
    exact ⟨k1, mk (c := fun a b => false) b1 g1 (fun a b ha hb hh => steps4_ok hE T) (fun a b => by unfold stepF; rw [if_neg (by decide), if_neg (by decide), if_pos (.inr rfl)]; simp)⟩
  by_cases h5 : how = 5
  · subst h5
    repeat first|(refine BG ?_;first|(refine BH ?_;first|(refine BI ?_;refine BM ?_)|(refine BJ ?_;first|refine BN ?_|refine BO ?_)|refine BP ?_)|(refine BK ?_;first|refine BS rfl rfl ?_|refine BT rfl rfl ?_|refine BU rfl ?_)|(refine BL ?_;first|refine BQ ?_)|(refine BR ?_;try simp only [setS]))|refine AA ?_|refine AC ?_|refine AD ?_|refine AE ?_|refine AF rfl rfl ?_|refine AG rfl rfl ?_|refine AH ?_|refine AI ?_|refine AJ ?_|refine AK ?_|refine AL ?_|refine AM ?_|refine AN ?_|refine AO ?_|refine AP ?_|refine AQ rfl ?_|refine AR ?_|refine AS ?_|refine AT rfl ?_|refine AU rfl ?_
    refine wr_calv rfl rfl ((steps1_ok hE T).mono fun x h1 ⟨k1, g, e1, b1, g1⟩ => ?_)
    subst e1
    repeat first|(refine BG ?_;first|(refine BH ?_;first|(refine BI ?_;refine BM ?_)|(refine BJ ?_;first|refine BN ?_|refine BO ?_)|refine BP ?_)|(refine BK ?_;first|refine BS rfl rfl ?_|refine BT rfl rfl ?_|refine BU rfl ?_)|(refine BL ?_;first|refine BQ ?_)|(refine BR ?_;try simp only [setS]))|refine AA ?_|refine AC ?_|refine AD ?_|refine AE ?_|refine AF rfl rfl ?_|refine AG rfl rfl ?_|refine AH ?_|refine AI ?_|refine AJ ?_|refine AK ?_|refine AL ?_|refine AM ?_|refine AN ?_|refine AO ?_|refine AP ?_|refine AQ rfl ?_|refine AR ?_|refine AS ?_|refine AT rfl ?_|refine AU rfl ?_
    exact ⟨k1, mk (c := fun a b => false) b1 g1 (fun a b ha hb hh => steps4_ok hE T) (fun a b => by unfold stepF; rw [if_neg (by decide), if_neg (by decide), if_pos (.inl rfl)]; simp)⟩
  by_cases h7 : how = 7
  · subst h7
    repeat first|(refine BG ?_;first|(refine BH ?_;first|(refine BI ?_;refine BM ?_)|(refine BJ ?_;first|refine BN ?_|refine BO ?_)|refine BP ?_)|(refine BK ?_;first|refine BS rfl rfl ?_|refine BT rfl rfl ?_|refine BU rfl ?_)|(refine BL ?_;first|refine BQ ?_)|(refine BR ?_;try simp only [setS]))|refine AA ?_|refine AC ?_|refine AD ?_|refine AE ?_|refine AF rfl rfl ?_|refine AG rfl rfl ?_|refine AH ?_|refine AI ?_|refine AJ ?_|refine AK ?_|refine AL ?_|refine AM ?_|refine AN ?_|refine AO ?_|refine AP ?_|refine AQ rfl ?_|refine AR ?_|refine AS ?_|refine AT rfl ?_|refine AU rfl ?_
    refine wr_calv rfl rfl ((steps1_ok hE T).mono fun x h1 ⟨k1, g, e1, b1, g1⟩ => ?_)
    subst e1
    repeat first|(refine BG ?_;first|(refine BH ?_;first|(refine BI ?_;refine BM ?_)|(refine BJ ?_;first|refine BN ?_|refine BO ?_)|refine BP ?_)|(refine BK ?_;first|refine BS rfl rfl ?_|refine BT rfl rfl ?_|refine BU rfl ?_)|(refine BL ?_;first|refine BQ ?_)|(refine BR ?_;try simp only [setS]))|refine AA ?_|refine AC ?_|refine AD ?_|refine AE ?_|refine AF rfl rfl ?_|refine AG rfl rfl ?_|refine AH ?_|refine AI ?_|refine AJ ?_|refine AK ?_|refine AL ?_|refine AM ?_|refine AN ?_|refine AO ?_|refine AP ?_|refine AQ rfl ?_|refine AR ?_|refine AS ?_|refine AT rfl ?_|refine AU rfl ?_
    exact ⟨k1, mk (c := fun a b => true) b1 g1 (fun a b ha hb hh => steps5_ok hE T) (fun a b => by unfold stepF; rw [if_neg (by decide), if_neg (by decide), if_neg (by decide), if_pos rfl]; simp)⟩
  repeat first|(refine BG ?_;first|(refine BH ?_;first|(refine BI ?_;refine BM ?_)|(refine BJ ?_;first|refine BN ?_|refine BO ?_)|refine BP ?_)|(refine BK ?_;first|refine BS rfl rfl ?_|refine BT rfl rfl ?_|refine BU rfl ?_)|(refine BL ?_;first|refine BQ ?_)|(refine BR ?_;try simp only [setS]))|refine AA ?_|refine AC ?_|refine AD ?_|refine AE ?_|refine AF rfl rfl ?_|refine AG rfl rfl ?_|refine AH ?_|refine AI ?_|refine AJ ?_|refine AK ?_|refine AL ?_|refine AM ?_|refine AN ?_|refine AO ?_|refine AP ?_|refine AQ rfl ?_|refine AR ?_|refine AS ?_|refine AT rfl ?_|refine AU rfl ?_
  exact ⟨Keep.refl _ _, ⟨_, [], rfl, fun hh k a b ha hb => by
    have e : stepF how a b = addF a b := by unfold stepF; rw [if_neg h2, if_neg h3, if_neg (by omega), if_neg h7]
    rw [e]
    exact addq_ok hE T.toQaS ha hb⟩⟩
theorem fdo1_ok (hE : ∀ f e, E f = some e → e.plain) (T : QaF E) {h : Hp X} {q : QQ} (hq : I64Q q) : WF (lim E) 41 [qv q] h fun x h' => Keep NoB h h' ∧ x = .bool (!rightF q) := by
  refine wf_bc hE T.fdo1 rfl ?_
  simp only [b_foldDo1, List.map, getS]
  have bx : Bx (h.push (.rw [.int .i64 q.1, .int .i64 q.2])) h.n [.int .i64 q.1, .int .i64 q.2] := bx_push
  have kp : Keep NoB h (h.push (.rw [.int .i64 q.1, .int .i64 q.2])) := Keep.push _ _ _
  repeat first|(refine BG ?_;first|(refine BH ?_;first|(refine BI ?_;refine BM ?_)|(refine BJ ?_;first|refine BN ?_|refine BO ?_)|refine BV (v_bxn bx rfl (Nat.le_refl _)) ?_|refine BP ?_)|(refine BK ?_;first|refine BS rfl rfl ?_|refine BT rfl rfl ?_|refine BU rfl ?_)|(refine BL ?_;first|refine BW (ef_box rfl int_all2) ?_|refine BQ ?_)|(refine BR ?_;try simp only [setS]))|refine AA ?_|refine AC ?_|refine AD ?_|refine AE ?_|refine AF rfl rfl ?_|refine AG rfl rfl ?_|refine AH ?_|refine AI ?_|refine AJ ?_|refine AK ?_|refine AL ?_|refine AM ?_|refine AN ?_|refine AO ?_|refine AP ?_|refine AQ rfl ?_|refine AR ?_|refine AS ?_|refine AT rfl ?_|refine AU rfl ?_
  refine wr_call_e rfl ((rightq_ok hE T.toQaS hq).mono fun x h4 ⟨k4, e4⟩ => ?_)
  subst e4
  repeat first|(refine BG ?_;first|(refine BH ?_;first|(refine BI ?_;refine BM ?_)|(refine BJ ?_;first|refine BN ?_|refine BO ?_)|refine BV (v_notb rfl) ?_|refine BP ?_)|(refine BK ?_;first|refine BS rfl rfl ?_|refine BT rfl rfl ?_|refine BU rfl ?_)|(refine BL ?_;first|refine BQ ?_)|(refine BR ?_;try simp only [setS]))|refine AA ?_|refine AC ?_|refine AD ?_|refine AE ?_|refine AF rfl rfl ?_|refine AG rfl rfl ?_|refine AH ?_|refine AI ?_|refine AJ ?_|refine AK ?_|refine AL ?_|refine AM ?_|refine AN ?_|refine AO ?_|refine AP ?_|refine AQ rfl ?_|refine AR ?_|refine AS ?_|refine AT rfl ?_|refine AU rfl ?_
  exact ⟨kp.and k4, rfl⟩
theorem idxR_ok (hE : ∀ f e, E f = some e → e.plain) (T : QaF E) {h : Hp X} {v : AV} {l : List QQ} (a : Rats h v l) : WF (lim E) 55 [v, .func 41 []] h fun x h' => Keep NoB h h' ∧ ∃ i : Int, x = .int .i64 i ∧ (0 ≤ i ↔ ∃ q ∈ l, rightF q = false) := by
  refine wf_bc hE T.idxR rfl ?_
  simp only [b_idxRats, List.map, getS]
  have hlen := a.len
  repeat first|(refine BG ?_;first|(refine BH ?_;first|(refine BI ?_;refine BM ?_)|(refine BJ ?_;first|refine BN ?_|refine BO ?_)|refine BV (a.rs.lenv (by rfl)) ?_|refine BP ?_)|(refine BK ?_;first|refine BS rfl rfl ?_|refine BT rfl rfl ?_|refine BU rfl ?_)|(refine BL ?_;first|refine BQ ?_)|(refine BR ?_;try simp only [setS]))|refine AA ?_|refine AC ?_|refine AD ?_|refine AE ?_|refine AF rfl rfl ?_|refine AG rfl rfl ?_|refine AH ?_|refine AI ?_|refine AJ ?_|refine AK ?_|refine AL ?_|refine AM ?_|refine AN ?_|refine AO ?_|refine AP ?_|refine AQ rfl ?_|refine AR ?_|refine AS ?_|refine AT rfl ?_|refine AU rfl ?_
  refine wb_loop (fun n t hh => ∃ (i : Nat) (s3 s6 s7 : AV), i ≤ l.length ∧ n = l.length - i ∧ Keep NoB h hh ∧ (∀ (j : Nat) q, j < i → l[j]? = some q → rightF q = true) ∧ t = [v, .func 41 [], .int .i64 0, s3, .int .i64 l.length, .int .i64 i, s6, s7]) ?_ l.length _ _ ⟨0, _, _, _, by omega, by omega, Keep.refl _ _, by omega, rfl⟩
  rintro n t hh ⟨i, s3, s6, s7, hi, hm, K, hok, rfl⟩
  by_cases hlt : i < l.length
  · obtain ⟨q, hq⟩ : ∃ q, l[i]? = some q := ⟨_, List.getElem?_eq_getElem hlt⟩
    have a1 := a.up K
    obtain ⟨g, o, c0, c1⟩ := a1.rs.atR hq
    have kr := Keep.refl (NoB) (hh : Hp X)
    repeat first|(refine BG ?_;first|(refine BH ?_;first|(refine BI ?_;refine BM ?_)|(refine BJ ?_;first|refine BN ?_|refine BO ?_)|refine BV (c0 rfl rfl) ?_|refine BV (c1 kr rfl) ?_|refine BP ?_)|(refine BK ?_;first|refine BS rfl rfl ?_|refine BT rfl rfl ?_|refine BU rfl ?_)|(refine BL ?_;first|refine BQ ?_)|(refine BR ?_;try simp only [setS]))|refine AA ?_|refine AC ?_|refine AD ?_|refine AE ?_|refine AF rfl rfl ?_|refine AG rfl rfl ?_|refine AH ?_|refine AI ?_|refine AJ ?_|refine AK ?_|refine AL ?_|refine AM ?_|refine AN ?_|refine AO ?_|refine AP ?_|refine AQ rfl ?_|refine AR ?_|refine AS ?_|refine AT rfl ?_|refine AU rfl ?_
    refine wr_calv_s rfl rfl ((fdo1_ok hE T (a.row q (List.mem_of_getElem? hq))).mono fun x h4 ⟨k4, e4⟩ => ?_)
    subst e4
    simp only [setS]
    have K4 := K.and k4
    rcases Bool.eq_false_or_eq_true (rightF q) with hr | hr
    · rw [hr]
      repeat first|(refine BG ?_;first|(refine BH ?_;first|(refine BI ?_;refine BM ?_)|(refine BJ ?_;first|refine BN ?_|refine BO ?_)|refine BP ?_)|(refine BK ?_;first|refine BS rfl rfl ?_|refine BT rfl rfl ?_|refine BU rfl ?_)|(refine BL ?_;first|refine BQ ?_)|(refine BR ?_;try simp only [setS]))|refine AA ?_|refine AC ?_|refine AD ?_|refine AE ?_|refine AF rfl rfl ?_|refine AG rfl rfl ?_|refine AH ?_|refine AI ?_|refine AJ ?_|refine AK ?_|refine AL ?_|refine AM ?_|refine AN ?_|refine AO ?_|refine AP ?_|refine AQ rfl ?_|refine AR ?_|refine AS ?_|refine AT rfl ?_|refine AU rfl ?_
      rw [show ((i : Int) + 1) = ((i + 1 : Nat) : Int) by omega]
      refine round_norm (n - 1) (by omega) ⟨i + 1, _, _, _, by omega, by omega, K4, fun j u h5 h6 => ?_, rfl⟩
      by_cases hj : j = i
      · subst hj; rw [hq] at h6; cases h6; exact hr
      · exact hok j u (by omega) h6
    · rw [hr]
      repeat first|(refine BG ?_;first|(refine BH ?_;first|(refine BI ?_;refine BM ?_)|(refine BJ ?_;first|refine BN ?_|refine BO ?_)|refine BP ?_)|(refine BK ?_;first|refine BS rfl rfl ?_|refine BT rfl rfl ?_|refine BU rfl ?_)|(refine BL ?_;first|refine BQ ?_)|(refine BR ?_;try simp only [setS]))|refine AA ?_|refine AC ?_|refine AD ?_|refine AE ?_|refine AF rfl rfl ?_|refine AG rfl rfl ?_|refine AH ?_|refine AI ?_|refine AJ ?_|refine AK ?_|refine AL ?_|refine AM ?_|refine AN ?_|refine AO ?_|refine AP ?_|refine AQ rfl ?_|refine AR ?_|refine AS ?_|refine AT rfl ?_|refine AU rfl ?_
      exact ⟨K4, (i : Int), rfl, fun _ => ⟨q, List.mem_of_getElem? hq, hr⟩, fun _ => by omega⟩
  · repeat first|(refine BG ?_;first|(refine BH ?_;first|(refine BI ?_;refine BM ?_)|(refine BJ ?_;first|refine BN ?_|refine BO ?_)|refine BP ?_)|(refine BK ?_;first|refine BS rfl rfl ?_|refine BT rfl rfl ?_|refine BU rfl ?_)|(refine BL ?_;first|refine BQ ?_)|(refine BR ?_;try simp only [setS]))|refine AA ?_|refine AC ?_|refine AD ?_|refine AE ?_|refine AF rfl rfl ?_|refine AG rfl rfl ?_|refine AH ?_|refine AI ?_|refine AJ ?_|refine AK ?_|refine AL ?_|refine AM ?_|refine AN ?_|refine AO ?_|refine AP ?_|refine AQ rfl ?_|refine AR ?_|refine AS ?_|refine AT rfl ?_|refine AU rfl ?_
    refine ⟨K, -1, rfl, fun q => absurd q (by decide), ?_⟩
    rintro ⟨q, hq, hr⟩
    obtain ⟨j, hj⟩ := List.mem_iff_getElem?.1 hq
    rw [hok j q (by have := (List.getElem?_eq_some_iff.1 hj).1; omega) hj] at hr
    cases hr
theorem hasR_ok (hE : ∀ f e, E f = some e → e.plain) (T : QaF E) {h : Hp X} {v : AV} {l : List QQ} (a : Rats h v l) : WF (lim E) 40 [v, .func 41 []] h fun x h' => Keep NoB h h' ∧ ∃ b, x = .bool b ∧ (b = true ↔ ∃ q ∈ l, rightF q = false) := by
  refine wf_bc hE T.hasR rfl ?_
  simp only [b_hasRats, List.map, getS]
  repeat first|(refine BG ?_;first|(refine BH ?_;first|(refine BI ?_;refine BM ?_)|(refine BJ ?_;first|refine BN ?_|refine BO ?_)|refine BP ?_)|(refine BK ?_;first|refine BS rfl rfl ?_|refine BT rfl rfl ?_|refine BU rfl ?_)|(refine BL ?_;first|refine BQ ?_)|(refine BR ?_;try simp only [setS]))|refine AA ?_|refine AC ?_|refine AD ?_|refine AE ?_|refine AF rfl rfl ?_|refine AG rfl rfl ?_|refine AH ?_|refine AI ?_|refine AJ ?_|refine AK ?_|refine AL ?_|refine AM ?_|refine AN ?_|refine AO ?_|refine AP ?_|refine AQ rfl ?_|refine AR ?_|refine AS ?_|refine AT rfl ?_|refine AU rfl ?_
  refine wr_call_e rfl ((idxR_ok hE T a).mono fun x h4 ⟨k4, i, e4, hi⟩ => ?_)
  subst e4
  by_cases h0 : 0 ≤ i
  · repeat first|(refine BG ?_;first|(refine BH ?_;first|(refine BI ?_;refine BM ?_)|(refine BJ ?_;first|refine BN ?_|refine BO ?_)|refine BP ?_)|(refine BK ?_;first|refine BS rfl rfl ?_|refine BT rfl rfl ?_|refine BU rfl ?_)|(refine BL ?_;first|refine BQ ?_)|(refine BR ?_;try simp only [setS]))|refine AA ?_|refine AC ?_|refine AD ?_|refine AE ?_|refine AF rfl rfl ?_|refine AG rfl rfl ?_|refine AH ?_|refine AI ?_|refine AJ ?_|refine AK ?_|refine AL ?_|refine AM ?_|refine AN ?_|refine AO ?_|refine AP ?_|refine AQ rfl ?_|refine AR ?_|refine AS ?_|refine AT rfl ?_|refine AU rfl ?_
    exact ⟨k4, true, rfl, fun _ => hi.1 h0, fun _ => rfl⟩
  · repeat first|(refine BG ?_;first|(refine BH ?_;first|(refine BI ?_;refine BM ?_)|(refine BJ ?_;first|refine BN ?_|refine BO ?_)|refine BP ?_)|(refine BK ?_;first|refine BS rfl rfl ?_|refine BT rfl rfl ?_|refine BU rfl ?_)|(refine BL ?_;first|refine BQ ?_)|(refine BR ?_;try simp only [setS]))|refine AA ?_|refine AC ?_|refine AD ?_|refine AE ?_|refine AF rfl rfl ?_|refine AG rfl rfl ?_|refine AH ?_|refine AI ?_|refine AJ ?_|refine AK ?_|refine AL ?_|refine AM ?_|refine AN ?_|refine AO ?_|refine AP ?_|refine AQ rfl ?_|refine AR ?_|refine AS ?_|refine AT rfl ?_|refine AU rfl ?_
    exact ⟨k4, false, rfl, fun q => (by cases q), fun q => absurd (hi.2 q) h0⟩
end
end Am
end Go.Proofs.Ytkgplkddpigagaa
