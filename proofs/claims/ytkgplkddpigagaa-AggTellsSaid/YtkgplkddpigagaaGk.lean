/- The step lemmas that name no program and no disk. -/
import Derived.Test.YtkgplkddpigagaaMC
set_option linter.unusedVariables false
set_option linter.unusedSimpArgs false
namespace Go.Proofs.Ytkgplkddpigagaa
namespace Am
open Go.RowKit
set_option maxRecDepth 100000
set_option linter.unusedVariables false
section
variable {X : Type}
section
variable {X : Type} {h0 h h' : Hp X}
theorem Keep.own {S : Nat → Prop} (a : Keep NoB h0 h) (b : Keep S h h') (hs : ∀ k, S k → h0.n ≤ k) : Keep NoB h0 h' := a.trans b (fun g hg q => absurd (hs g q) (by omega))
theorem Keep.on {S T : Nat → Prop} (a : Keep S h0 h) (b : Keep T h h') (hs : ∀ k, T k → h0.n ≤ k ∨ S k) : Keep S h0 h' := a.trans b (fun g hg q => by rcases hs g q with q | q; omega; exact q)
theorem Keep.and {S : Nat → Prop} (a : Keep S h0 h) (b : Keep NoB h h') : Keep S h0 h' := a.trans b (fun _ _ q => q.elim)
theorem Keep.any {S : Nat → Prop} (a : Keep NoB h0 h) : Keep S h0 h := a.mono (fun _ _ q => q.elim)
theorem RS.up {z n : Nat} {v : AV} {cells : List AV} (a : RS h z v n cells) (k : Keep NoB h h') : RS h' z v n cells := a.keep k (fun _ _ q => q)
theorem OS.up {z n : Nat} {v : AV} {cells : List AV} (a : OS h z v n cells) (k : Keep NoB h h') : OS h' z v n cells := a.keep k (fun _ _ q => q)
structure Bx (h : Hp X) (g : Nat) (l : List AV) : Prop where
  lt : g < h.n
  get : h.get g = some (.rw l)
theorem Bx.keep {S : Nat → Prop} {g : Nat} {l : List AV} (a : Bx h g l) (k : Keep S h h') (hs : ¬ S g) : Bx h' g l := ⟨Nat.lt_of_lt_of_le a.lt k.n, by rw [k.get g a.lt hs]; exact a.get⟩
theorem Bx.up {g : Nat} {l : List AV} (a : Bx h g l) (k : Keep NoB h h') : Bx h' g l := a.keep k (fun q => q)
theorem bx_push {l : List AV} : Bx (h.push (.rw l)) h.n l := ⟨Nat.lt_succ_self _, Hp.push_self _ _⟩
theorem Bx.put {g : Nat} {l r : List AV} (a : Bx h g l) : Bx (h.put g (.rw r)) g r := ⟨a.lt, Hp.put_self _ _ _⟩
theorem Bx.put_ne {g j : Nat} {l : List AV} {c : AB X} (a : Bx h g l) (hj : g ≠ j) : Bx (h.put j c) g l := ⟨a.lt, by rw [Hp.put_ne _ _ _ hj]; exact a.get⟩
end
section
variable {X : Type} {e : En} {t : List AV} {h : Hp X}
theorem v_bne {x y : Od} {a b : Bool} (hx : x.ev e t = .bool a) (hy : y.ev e t = .bool b) : (Mv.bin .neq .bool x y).ev e t h = some (.bool (a != b)) := by
  simp [Mv.ev, hx, hy, Am.bin, AV.onBool, eqv, bne]
theorem v_add {q : Eq} {x y : Od} {a b : Int} (hx : x.ev e t = .int .i64 a) (hy : y.ev e t = .int .i64 b) (hc : -9223372036854775808 ≤ a + b ∧ a + b < 9223372036854775808) : (Mv.bin .add q x y).ev e t h = some (.int .i64 (a + b)) := by simp [Mv.ev, hx, hy, Am.bin, AV.onInt, intOp, isShift, wr64 hc]
theorem v_bx {x : Od} {g o : Nat} {l : List AV} {v : AV} (hb : Bx h g l) (hx : x.ev e t = .ptr g o) (hv : l[o]? = some v) : (Mv.ld1 x).ev e t h = some v := v_ld1 hx hb.get hv
theorem v_bxn {n : Nat} {x : Od} {g o : Nat} {l : List AV} (hb : Bx h g l) (hx : x.ev e t = .ptr g o) (ho : o + n ≤ l.length) : (Mv.ldn n x).ev e t h = some (.agg ((l.drop o).take n)) := v_ldn hx hb.get ho
theorem ef_bx {a x : Od} {g o : Nat} {l : List AV} {v : AV} (hb : Bx h g l) (ha : a.ev e t = .ptr g o) (hx : x.ev e t = v) (hv : cellsOf v = some [v] ∧ v.one = true) (ho : o < l.length) : (Ef.store 1 a x).ev e t h = some (.bot, h.put g (.rw (spl o [v] l))) := ef_store1 ha hx hv hb.get ho
theorem ef_bxn {n : Nat} {a x : Od} {g o : Nat} {l vs : List AV} (hb : Bx h g l) (ha : a.ev e t = .ptr g o) (hx : x.ev e t = .agg vs) (hall : allOne vs = true) (hn : vs.length = n) (ho : o + n ≤ l.length) : (Ef.store n a x).ev e t h = some (.bot, h.put g (.rw (spl o vs l))) := ef_storeN ha hx hall hn hb.get ho
end
noncomputable def look {X : Type} : List (Nat × Ent X) → Nat → Option (Ent X)
  | [], _ => none
  | p :: r, f => if f = p.1 then some p.2 else look r f
theorem look_mem {X : Type} : ∀ {l : List (Nat × Ent X)} {f : Nat} {e : Ent X}, look l f = some e → (f, e) ∈ l
  | [], _, _, h => by cases h
  | p :: r, f, e, h => by
    unfold look at h
    split at h
    · rename_i hf; cases h; subst hf; exact List.mem_cons_self ..
    · exact List.mem_cons_of_mem _ (look_mem h)
theorem look_plain {X : Type} {l : List (Nat × Ent X)} (hl : ∀ p ∈ l, p.2.plain) : ∀ f e, look l f = some e → e.plain := fun f e h => hl (f, e) (look_mem h)
theorem look_ok {P : Program} {O : Objs} {l : List (Nat × Ent O.X)} (hl : ∀ p ∈ l, ∀ N, FnOK P O p.1 (entF N p.2)) : ∀ f e, look l f = some e → ∀ N, FnOK P O f (entF N e) := fun f e h => hl (f, e) (look_mem h)
end
section
variable {X : Type}
section
variable {e : En} {t : List AV} {X : Type} {h : Hp X}
theorem ef_box {x : Od} {l : List AV} (hx : x.ev e t = .agg l) (hall : allOne l = true) : (Ef.box x).ev e t h = some (.ptr h.n 0, h.push (.rw l)) := by
  simp only [Ef.ev, hx]
  show (bif allOne l then some (AV.ptr h.n 0, h.push (.rw l)) else none) = _
  rw [hall]
  rfl
end
end
section
variable {X : Type}
end
section
variable {X : Type}
mutual
theorem eqA_refl : ∀ a : AV, eqA a a = true
  | .int .. => by simp [eqA]
  | .bool .. => by simp [eqA]
  | .str .. => by simp [eqA]
  | .ptr .. => by simp [eqA]
  | .nilp => rfl
  | .slice .. => by simp [eqA]
  | .snil => rfl
  | .semp => rfl
  | .meth _ fs => by simp [eqA, eqAs_refl fs]
  | .func _ cs => by simp [eqA, eqAs_refl cs]
  | .nilf => rfl
  | .iface _ v => by simp [eqA, eqA_refl v]
  | .inil => rfl
  | .agg l => by simp [eqA, eqAs_refl l]
  | .tup l => by simp [eqA, eqAs_refl l]
  | .bot => rfl
theorem eqAs_refl : ∀ l : List AV, eqAs l l = true
  | [] => rfl
  | a :: l => by simp [eqAs, eqA_refl a, eqAs_refl l]
end
section
variable {X : Type} {D : Dp X} {h : Hp X} {past : List (Pa X)} {r : List Nat} {q : Nat}
structure Chk (h : Hp X) (past : List (Pa X)) (r : List Nat) : Prop where
  out : chkAll h past r = true
theorem chk_nil : Chk h past [] := ⟨rfl⟩
section
variable {l : Dr} {e : En} {t : List AV} {Q : R X → Prop} {chk : List Nat}
theorem wd_alloc_s {k : Nat} {cs : List AV} (hc : Chk (h.push (.rw cs)) past chk) (H : WD D l (past ++ [.alc h.n cs]) e (setS t k (.ptr h.n 0)) (h.push (.rw cs)) Q) : WD D ((.mk none (.slot k) (.eff (.alloc cs)), chk) :: l) past e t h Q := by
  obtain ⟨t', h', h1, h2⟩ := H.out
  refine ⟨⟨t', h', ?_, h2⟩⟩
  have hp : paOf (.eff (.alloc cs)) e t h (.ptr h.n 0) (h.push (.rw cs)) = some (.alc h.n cs) := by
    show (match (h.push (.rw cs)).get h.n, some ((fun g => AV.ptr g 0), cs) with | some (.rw l), some (_, l') => bif eqAs l l' then some (Pa.alc h.n l) else none | _, _ => none) = _
    rw [Hp.push_self]
    simp [eqAs_refl]
  have ho : (Op1.eff (.alloc cs)).run D e t h = .ret (.ptr h.n 0) (h.push (.rw cs)) := rfl
  simp only [drGo, gdv, St1.g, St1.o, St1.d, ho, hp, hc.out, cond_true]
  exact h1
theorem wd_heap {h' : Hp X} (he : h = h') (H : WD D l past e t h' Q) : WD D l past e t h Q := by rw [he]; exact H
theorem wd_calls_e {k f : Nat} {xs : List Od} {args : List AV} (ha : (xs.map fun x => x.ev e t) = args) (H : WF D f args h fun v h' => Chk h' past chk ∧ WD D l (past ++ [.skip]) ((k, v) :: e) t h' Q) : WD D ((.mk none (.env k) (.call f xs), chk) :: l) past e t h Q :=
  wd_call_e ha (H.mono fun v h' ⟨q1, q2⟩ => ⟨q1.out, q2⟩)
end
theorem RS.at2 {n : Nat} {v : AV} {cells : List AV} (a : RS h 1 v n cells) {i : Nat} (hi : i < n) : ∃ g o, (∀ {hh : Hp X} {e : En} {t : List AV} {x y : Od} {k : IntKind}, x.ev e t = v → y.ev e t = .int k (i : Int) → (Mv.iaddr 1 x y).ev e t hh = some (.ptr g o)) ∧
    ∀ {S : Nat → Prop} {hh : Hp X}, Keep S h hh → (∀ k, blk v k → ¬ S k) → ∀ {e : En} {t : List AV} {x : Od}, x.ev e t = .ptr g o → (Mv.ld1 x).ev e t hh = cells[i]? := by
  cases v <;> first | exact a.elim | skip
  · rename_i z g o m cap
    obtain ⟨rfl, rfl, hg, l, hl, hle, rfl⟩ := a
    refine ⟨g, o + i * 1, fun {hh e t x y k} hx hy => ?_, fun {S hh} hk hs {e t x} hx => ?_⟩
    · simp only [Mv.ev, hx, hy, nOf]
      rw [show Nat.blt i m = true by rw [Nat.blt_eq]; exact hi]
      rfl
    · simp only [Mv.ev, hx, AV.onPtr]
      rw [rowOf_get (hk.get g hg (hs g rfl)), hl]
      simp only
      rw [getN_ge]
      rw [List.getElem?_take_of_lt (by omega), List.getElem?_drop, Nat.mul_one]
  · obtain ⟨rfl, _⟩ := a; omega
  · obtain ⟨rfl, _⟩ := a; omega
end
end
section
variable {X : Type}
section
variable {e : En} {t : List AV} {X : Type} {h : Hp X}
theorem v_rem {q : Eq} {x y : Od} {k : IntKind} {a b : Int} (hx : x.ev e t = .int k a) (hy : y.ev e t = .int k b) (hb : b ≠ 0) : (Mv.bin .rem q x y).ev e t h = some (.int k (a.tmod b)) := by
  simp [Mv.ev, hx, hy, Am.bin, AV.onInt, intOp, isShift, hb]
end
end
section
variable {X : Type}
section
variable {e : En} {t : List AV} {X : Type} {h : Hp X}
theorem v_neg {x : Od} {a : Int} (hx : x.ev e t = .int .i64 a) (ha : -9223372036854775807 ≤ a ∧ a < 9223372036854775808) : (Mv.neg x).ev e t h = some (.int .i64 (-a)) := by
  simp only [Mv.ev, hx, AV.onInt]
  rw [show 0 - a = -a by omega, wr64 (by omega)]
end
end
section
variable {X : Type}
theorem spl_one {o : Nat} {c : AV} {l : List AV} (ho : o < l.length) : spl o [c] l = l.set o c := by
  unfold spl
  rw [List.set_eq_take_append_cons_drop, if_pos ho]
  simp
section
variable {X : Type} {h : Hp X}
theorem OS.set {n k : Nat} {v c : AV} {cells : List AV} (a : OS h 1 v n cells) (hk : k < n) : ∃ g o l, (∀ {hh : Hp X} {e : En} {t : List AV} {x y : Od} {kk : IntKind}, x.ev e t = v → y.ev e t = .int kk (k : Int) → (Mv.iaddr 1 x y).ev e t hh = some (.ptr g o)) ∧
    Bx h g l ∧ o < l.length ∧ l[o]? = cells[k]? ∧ OS (h.put g (.rw (spl o [c] l))) 1 v n (cells.set k c) ∧ blk v g := by
  cases v <;> first | exact a.elim | skip
  · rename_i z g o m cap
    obtain ⟨rfl, rfl, hz, hg, l, hl, hle, rfl, hcap⟩ := a
    refine ⟨g, o + k * 1, l, fun {hh e t x y kk} hx hy => ?_, ⟨hg, hl⟩, by omega, ?_, ⟨rfl, rfl, hz, hg, _, Hp.put_self _ _ _, ?_, ?_, ?_⟩, rfl⟩
    · simp only [Mv.ev, hx, hy, nOf]
      rw [show Nat.blt k m = true by rw [Nat.blt_eq]; exact hk]
      rfl
    · rw [List.getElem?_take_of_lt (by omega), List.getElem?_drop, Nat.mul_one]
    · rw [spl_one (by omega), List.length_set]; exact hle
    · rw [spl_one (by omega), Nat.mul_one, List.drop_set, if_neg (by omega), List.take_set, Nat.add_sub_cancel_left, Nat.mul_one]
    · rw [spl_one (by omega), List.length_set]; exact hcap
  · obtain ⟨rfl, _⟩ := a; omega
end
end
section
variable {X : Type}
section
variable {X : Type} {E : Nat → Option (Ent X)}
theorem ef_bs0 {e : En} {t : List AV} {h : Hp X} {z : Nat} {zero : List AV} : (Ef.bslice z 0 zero []).ev e t h = some (.slice z h.n 0 0 (some 0), h.push (.rw [])) := by
  simp only [Ef.ev, List.map, rep, fillA, allOne, List.length_nil, Nat.zero_mul, Nat.beq_refl, Bool.true_and]
  rfl
end
end
section
variable {X : Type}
section
variable {X : Type} {E : Nat → Option (Ent X)}
def Bnd (o : Option Od) (e : En) (t : List AV) (n : Nat) (d : Nat) : Prop := (o = none ∧ n = d) ∨ ∃ x k, o = some x ∧ x.ev e t = .int k (n : Int)
theorem nOf_nat {k : IntKind} {n : Nat} : nOf (.int k (n : Int)) = some n := rfl
theorem RS.sl {h : Hp X} {z n : Nat} {v : AV} {cells : List AV} (a : RS h z v n cells) {lo hi : Nat} (h1 : lo ≤ hi) (h2 : hi ≤ n) : ∃ v', RS h z v' (hi - lo) ((cells.drop (lo * z)).take ((hi - lo) * z)) ∧ (∀ g, blk v' g → blk v g) ∧ (v ≠ .semp → v' ≠ .semp) ∧
    ∀ {hh : Hp X} {e : En} {t : List AV} {x : Od} {ol oh : Option Od}, x.ev e t = v → Bnd ol e t lo 0 → Bnd oh e t hi n → (Mv.sl z x ol oh none).ev e t hh = some v' := by
  cases v <;> first | exact a.elim | skip
  · rename_i z' g o n' cap
    obtain ⟨rfl, rfl, hg, l, hl, hle, rfl⟩ := a
    refine ⟨.slice z' g (o + lo * z') (hi - lo) (match cap with | none => none | some k => some (k - lo)), ⟨rfl, rfl, hg, l, hl, ?_, ?_⟩, fun g hg => hg, (fun _ e => by cases e), fun {hh e t x ol oh} hx hol hoh => ?_⟩
    · have e1 : lo * z' + (hi - lo) * z' = hi * z' := by rw [← Nat.add_mul]; congr 1; omega
      have := Nat.mul_le_mul_right z' h2
      omega
    · have e1 : lo * z' + (hi - lo) * z' = hi * z' := by rw [← Nat.add_mul]; congr 1; omega
      have := Nat.mul_le_mul_right z' h2
      rw [List.drop_take, List.take_take, List.drop_drop]
      congr 1
      omega
    · have hc : capB hh z' g o n' cap hi = true := by unfold capB; rw [ble_t h2]; rfl
      have hl2 := ble_t h1
      simp only [Mv.ev, hx, slB, Nat.beq_refl, Bool.not_true, cond_false]
      rcases hol with ⟨rfl, rfl⟩ | ⟨y, k, rfl, hy⟩ <;> rcases hoh with ⟨rfl, rfl⟩ | ⟨y2, k2, rfl, hy2⟩
      · simp only [oev]; cases cap <;> rfl
      · simp only [oev, hy2, nOf_nat, hc, cond_true]; cases cap <;> rfl
      · simp only [oev, hy, nOf_nat, hl2, cond_true]; cases cap <;> rfl
      · simp only [oev, hy, hy2, nOf_nat, hc, hl2, cond_true]; cases cap <;> rfl
  · obtain ⟨rfl, rfl⟩ := a
    have e1 : hi = 0 := by omega
    subst e1
    have e2 : lo = 0 := by omega
    subst e2
    refine ⟨.snil, ⟨rfl, by simp⟩, fun g hg => hg, (fun _ e => by cases e), fun {hh e t x ol oh} hx hol hoh => ?_⟩
    simp only [Mv.ev, hx, slB]
    rcases hol with ⟨rfl, _⟩ | ⟨y, k, rfl, hy⟩ <;> rcases hoh with ⟨rfl, _⟩ | ⟨y2, k2, rfl, hy2⟩ <;> simp only [oev, *] <;> rfl
  · obtain ⟨rfl, rfl⟩ := a
    have e1 : hi = 0 := by omega
    subst e1
    have e2 : lo = 0 := by omega
    subst e2
    refine ⟨.semp, ⟨rfl, by simp⟩, fun g hg => hg, fun h => absurd rfl h, fun {hh e t x ol oh} hx hol hoh => ?_⟩
    simp only [Mv.ev, hx, slB]
    rcases hol with ⟨rfl, _⟩ | ⟨y, k, rfl, hy⟩ <;> rcases hoh with ⟨rfl, _⟩ | ⟨y2, k2, rfl, hy2⟩ <;> simp only [oev, *] <;> rfl
end
end
section
variable {X : Type}
section
variable {X : Type} {E : Nat → Option (Ent X)}
theorem ef_bs1' {e : En} {t : List AV} {h : Hp X} {x : Od} {c zero : AV} (hx : x.ev e t = c) (hc : cellsOf c = some [c]) (h1 : c.one = true) : (Ef.bslice 1 1 [zero] [(0, 1, x)]).ev e t h = some (.slice 1 h.n 0 1 (some 1), h.push (.rw [c])) := by
  have ho : allOne [c] = true := by
    unfold allOne
    cases c <;> first | (cases h1; done) | rfl
  have hf : fillA (rep [zero] 1) [(0, 1, c)] = some [c] := by
    simp only [fillA, rep, hc]
    rfl
  simp only [Ef.ev, List.map, hx]
  rw [hf]
  show (bif allOne [c] && Nat.beq 1 (1 * 1) && Nat.ble 1 maxLen then some (AV.slice 1 h.n 0 1 (some 1), h.push (.rw [c])) else none) = _
  rw [ho]
  rfl
theorem OS.one {h : Hp X} {z n : Nat} {v : AV} {cells : List AV} (a : OS h z v n cells) : cellsOf v = some [v] ∧ v.one = true := by
  cases v <;> first | exact a.elim | exact ⟨rfl, rfl⟩
end
end
section
variable {X : Type}
section
variable {X : Type} {E : Nat → Option (Ent X)}
theorem RS.one {h : Hp X} {z n : Nat} {v : AV} {cells : List AV} (a : RS h z v n cells) : cellsOf v = some [v] ∧ v.one = true := by
  cases v <;> first | exact a.elim | exact ⟨rfl, rfl⟩
end
end
section
variable {X : Type}
end
section
variable {X : Type}
section
variable {X : Type} {D : Dp X} {l : Dr} {past : List (Pa X)} {e e' : En} {t t' : List AV} {h : Hp X} {Q : R X → Prop} {chk : List Nat}
theorem wd_alc {d : Ds} {m : Ef} {v : AV} {cs : List AV} (hm : m.ev e t h = some (v, h.push (.rw cs))) (hc : Chk (h.push (.rw cs)) past chk) (H : WD D l (past ++ [.alc h.n cs]) e' t' (h.push (.rw cs)) Q) (hi : m.isAlc = true := by rfl) (he : putE d v e = e' := by conv => lhs; whnf) (ht : putT d v t = t' := by conv => lhs; whnf) : WD D ((.mk none d (.eff m), chk) :: l) past e t h Q := by
  subst he ht
  obtain ⟨t', h', h1, h2⟩ := H.out
  refine ⟨⟨t', h', ?_, h2⟩⟩
  have ha := alc_ev hi (e := e) (t := t) (h := h)
  rw [hm] at ha
  obtain ⟨p, hp, hq⟩ : ∃ p, m.alc e t = some p ∧ p.2 = cs := by
    cases hx : m.alc e t with
    | none => rw [hx] at ha; cases ha
    | some p =>
      rw [hx] at ha
      simp only [Option.map_some, Option.some.injEq, Prod.mk.injEq] at ha
      refine ⟨p, rfl, ?_⟩
      have := congrArg (fun h : Hp X => h.get h.n) ha.2
      have h3 := Hp.push_self h (.rw cs)
      have h4 := Hp.push_self h (.rw p.2)
      rw [ha.2] at h3
      rw [h4] at h3
      simpa using h3
  have hpa : paOf (.eff m) e t h v (h.push (.rw cs)) = some (.alc h.n cs) := by
    show (bif m.isAlc then (match (h.push (.rw cs)).get h.n, m.alc e t with | some (.rw l), some (_, l') => bif eqAs l l' then some (Pa.alc h.n l) else none | _, _ => none) else some .skip) = _
    rw [hi, Hp.push_self, hp]
    obtain ⟨p1, p2⟩ := p
    simp only at hq
    subst hq
    simp [eqAs_refl]
  have ho : (Op1.eff m).run D e t h = .ret v (h.push (.rw cs)) := by simp only [Op1.run, hm]
  simp only [drGo, gdv, St1.g, St1.o, St1.d, ho, hpa, hc.out, cond_true]
  exact h1
theorem wd_ef {d : Ds} {m : Ef} {v : AV} {h' : Hp X} (hm : m.ev e t h = some (v, h')) (hc : Chk h' past chk) (H : WD D l (past ++ [.skip]) e' t' h' Q) (hi : m.isAlc = false := by rfl) (he : putE d v e = e' := by conv => lhs; whnf) (ht : putT d v t = t' := by conv => lhs; whnf) : WD D ((.mk none d (.eff m), chk) :: l) past e t h Q := by
  subst he ht
  obtain ⟨t', h'', h1, h2⟩ := H.out
  refine ⟨⟨t', h'', ?_, h2⟩⟩
  have hpa : paOf (.eff m) e t h v h' = some .skip := by
    show (bif m.isAlc then (match h'.get h.n, m.alc e t with | some (.rw l), some (_, l') => bif eqAs l l' then some (Pa.alc h.n l) else none | _, _ => none) else some Pa.skip) = some Pa.skip
    rw [hi]
    rfl
  have ho : (Op1.eff m).run D e t h = .ret v h' := by simp only [Op1.run, hm]
  simp only [drGo, gdv, St1.g, St1.o, St1.d, ho, hpa, hc.out, cond_true]
  exact h1
theorem wd_app {k z by' : Nat} {x y : Od} {v w : AV} {n m : Nat} {cells vs : List AV} (hx : x.ev e t = v) (hy : y.ev e t = w) (ho : OS h z v n cells) (hz : 0 < z) (hw : RS h z w m vs) (h1 : (n + m) * by' ≤ 140737488355328) (h2 : n + m ≤ maxLen)
    (H : ∀ v' h', OS h' z v' (n + m) (cells ++ vs) → Keep (blk v) h h' → (∀ g, blk v' g → blk v g ∨ h.n ≤ g) → Chk h' past chk ∧ WD D l (past ++ [.skip]) ((k, v') :: e) t h' Q) : WD D ((.mk none (.env k) (.eff (.append z by' x y)), chk) :: l) past e t h Q := by
  obtain ⟨v', h', e1, e2, e3, e4⟩ := ho.app hz hw.len h1 h2
  obtain ⟨q1, q2⟩ := H v' h' e2 e3 e4
  exact wd_ef (by simp only [Ef.ev, hy, hw.elems, hx, e1]) q1 q2 rfl rfl rfl
end
end
section
variable {X : Type}
end
section
variable {X : Type}
end
section
variable {X : Type}
section
structure midR (P : List AV → Hp X → Prop) (S : R X → Prop) (r : R X) : Prop where
  out : match r with | .norm t h => P t h | r => S r
theorem mid_norm {P : List AV → Hp X → Prop} {S : R X → Prop} {t : List AV} {h : Hp X} (q : P t h) : midR P S (.norm t h) := ⟨q⟩
theorem mid_ret {P : List AV → Hp X → Prop} {S : R X → Prop} {t : List AV} {h : Hp X} (q : S (.ret t h)) : midR P S (.ret t h) := ⟨q⟩
theorem wb_mid {D : Dp X} {t : List AV} {h : Hp X} {c b : BC} {Q : R X → Prop} (P : List AV → Hp X → Prop) (H : WB D c t h (midR P (thenR D b Q))) (H2 : ∀ t' h', P t' h' → WB D b t' h' Q) : WB D c t h (thenR D b Q) := by
  have key : ∀ r, midR P (thenR D b Q) r → thenR D b Q r := fun r q => by
    cases r with
    | norm t h => exact ⟨H2 _ _ q.out⟩
    | _ => exact q.out
  exact WB.mono H key
end
end
section
variable {X : Type}
section
variable {X : Type} {h : Hp X}
theorem v_notb {e : En} {t : List AV} {x : Od} {a : Bool} (hx : x.ev e t = .bool a) : (Mv.notb x).ev e t h = some (.bool (!a)) := by
  simp only [Mv.ev, hx, AV.onBool]
end
end
section
variable {X : Type}
inductive PaLen {α : Type} : List α → Nat → Prop
  | nil : PaLen [] 0
  | snoc {l : List α} {n : Nat} {x : α} : PaLen l n → PaLen (l ++ [x]) (n + 1)
theorem PaLen.len {α : Type} {l : List α} {n : Nat} (a : PaLen l n) : l.length = n := by
  induction a with
  | nil => rfl
  | snoc _ ih => rw [List.length_append, ih]; rfl
section
variable {h : Hp X} {past : List (Pa X)} {r : List Nat} {q : Nat}
theorem chk_at {x : Pa X} (hp : past[q]? = some x) (hx : x.ok h = true) (H : Chk h past r) : Chk h past (q :: r) := ⟨by simp only [chkAll, hp, hx, H.out, Bool.and_self]⟩
theorem pa_skp : (Pa.skip : Pa X).ok h = true := rfl
theorem pa_mov {m : Mv} {e : En} {t : List AV} {v : AV} (hm : m.ev e t h = some v) : (Pa.mov m e t v : Pa X).ok h = true := by simp only [Pa.ok, hm, eqA_refl]
theorem pa_alc {g : Nat} {l : List AV} (hg : h.get g = some (.rw l)) : (Pa.alc g l : Pa X).ok h = true := by simp only [Pa.ok, hg, eqAs_refl]
end
end
section
variable {X : Type}
section
variable {D : Dp X} {l : Dr} {past : List (Pa X)} {e e' : En} {t t' : List AV} {h : Hp X} {Q : R X → Prop}
theorem wd_gq {g : Od × Bool} {d : Ds} {o : Op1} {chk : List Nat} (hg : gdv (some g) e t = some false) (H : WD D l (past ++ [.skip]) e' t' h Q) (he : putE d (.tup []) e = e' := by conv => lhs; whnf) (ht : putT d (.tup []) t = t' := by conv => lhs; whnf) : WD D ((.mk (some g) d o, chk) :: l) past e t h Q := by
  subst he ht
  obtain ⟨t', h', h1, h2⟩ := H.out
  refine ⟨⟨t', h', ?_, h2⟩⟩
  simp only [drGo, St1.g, St1.o, St1.d, hg] at h1 ⊢
  exact h1
end
section
theorem wb_hq {D : Dp X} {b : BC} {t : List AV} {h h' : Hp X} {Q : R X → Prop} (he : h = h') (H : WB D b t h' Q) : WB D b t h Q := he ▸ H
end
end
section
variable {X : Type}
theorem v_subi {X : Type} {e : En} {t : List AV} {h : Hp X} {q : Eq} {x y : Od} {a b : Int} (hx : x.ev e t = .int .i64 a) (hy : y.ev e t = .int .i64 b) (hc : -9223372036854775808 ≤ a - b ∧ a - b < 9223372036854775808) : (Mv.bin .sub q x y).ev e t h = some (.int .i64 (a - b)) := by simp [Mv.ev, hx, hy, Am.bin, AV.onInt, intOp, isShift, wr64 hc]
end
section
variable {X : Type}
theorem v_pred {X : Type} {e : En} {t : List AV} {h : Hp X} {q : Eq} {x y : Od} {j : Nat} (hx : x.ev e t = .int .i64 ((j + 1 : Nat) : Int)) (hy : y.ev e t = .int .i64 1) (hc : j < 4611686018427387904) : (Mv.bin .sub q x y).ev e t h = some (.int .i64 (j : Nat)) := by
  rw [v_subi hx hy (by omega), show ((j + 1 : Nat) : Int) - 1 = (j : Nat) by omega]
end
section
variable {X : Type}
end
section
variable {X : Type}
theorem v_bnef {X : Type} {e : En} {t : List AV} {h : Hp X} {x y : Od} {a : Bool} (hx : x.ev e t = .bool a) (hy : y.ev e t = .bool a) : (Mv.bin .neq .bool x y).ev e t h = some (.bool false) := by
  rw [v_bne hx hy]; simp
end
end Am
end Go.Proofs.Ytkgplkddpigagaa
