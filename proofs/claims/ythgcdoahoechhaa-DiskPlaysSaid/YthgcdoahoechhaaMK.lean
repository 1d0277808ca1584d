/- Entries as they lie in memory; package frame: value, Batch. Regions that draw and lay rows, append; chapter 4's own Batch; its reader's Some. Package frame: one entry that is read. Functions that defer a call which recovers, walked; package frame: read, Entries. Package frame: read. Package frame: Entries. Lists of entries, of batches, that more is put behind. -/
import Derived.Test.YthgcdoahoechhaaMJ
import Derived.Test.YthgcdoahoechhaaMN
set_option linter.unusedVariables false
set_option linter.unusedSimpArgs false
namespace Go.Proofs.Ythgcdoahoechhaa
namespace Am
open Go.RowKit
set_option maxRecDepth 100000
structure EM where
  key : List UInt8
  val : List UInt8
  gone : Bool
abbrev T3 := AV × AV × Bool
def f3 (q : T3) : List AV := [q.1, q.2.1, .bool q.2.2]
section
variable {X : Type} {h : Hp X}
structure EntV (h : Hp X) (q : T3) (e : EM) : Prop where
  gone : q.2.2 = e.gone
  key : RS h 1 q.1 e.key.length (e.key.map ub)
  val : RS h 1 q.2.1 e.val.length (e.val.map ub)
theorem EntV.up {h' : Hp X} {q : T3} {e : EM} (a : EntV h q e) (k : Keep NoB h h') : EntV h' q e := ⟨a.gone, a.key.up k, a.val.up k⟩
structure Ents (h : Hp X) (v : AV) (l : List EM) : Prop where
  out : ∃ tri : List T3, RS h 3 v l.length (tri.flatMap f3) ∧ tri.length = l.length ∧ ∀ (i : Nat) q e, tri[i]? = some q → l[i]? = some e → EntV h q e
theorem Ents.up {h' : Hp X} {v : AV} {l : List EM} (a : Ents h v l) (k : Keep NoB h h') : Ents h' v l := by
  obtain ⟨tri, h1, h2, h3⟩ := a.out
  exact ⟨tri, h1.up k, h2, fun i q e q1 q2 => (h3 i q e q1 q2).up k⟩
end
def EM.v (e : EM) : List UInt8 := if e.gone then [] else e.val
end Am
end Go.Proofs.Ythgcdoahoechhaa
namespace Go.Proofs.Ythgcdoahoechhaa
namespace Am
open Go.RowKit
set_option maxRecDepth 100000
section
variable {X : Type} {D : Dp X} {l : Dr} {past : List (Pa X)} {e e' : En} {t t' : List AV} {h : Hp X} {Q : R X → Prop} {chk : List Nat}
theorem wd_alc {d : Ds} {m : Ef} {v : AV} {cs : List AV} (hm : m.ev e t h = some (v, h.push (.rw cs))) (hc : Chk (h.push (.rw cs)) past chk) (H : WD D l (past ++ [.alc h.n cs]) e' t' (h.push (.rw cs)) Q) (hi : m.isAlc = true := by rfl) (he : putE d v e = e' := by conv => lhs; whnf) (ht : putT d v t = t' := by conv => lhs; whnf) : WD D ((.mk none d (.eff m), chk) :: l) past e t h Q := by
  subst he ht
  obtain ⟨t', h', h1, h2⟩ := H.out
  refine ⟨⟨t', h', ?_, h2⟩⟩
  have ha := alc_ev hi (e := e) (t := t) (h := h)
  rw [hm] at ha
  obtain ⟨p, hp, hq⟩ : ∃ p, m.alc e t = some p ∧ p.2 = cs := by
    cases hx : m.alc e t with
    | none => rw [hx] at ha; cases ha
    | some p =>
      rw [hx] at ha
      simp only [Option.map_some, Option.some.injEq, Prod.mk.injEq] at ha
      refine ⟨p, rfl, ?_⟩
      have := congrArg (fun h : Hp X => h.get h.n) ha.2
      have h3 := Hp.push_self h (.rw cs)
      have h4 := Hp.push_self h (.rw p.2)
      rw [ha.2] at h3
      rw [h4] at h3
      simpa using h3
  have hpa : paOf (.eff m) e t h v (h.push (.rw cs)) = some (.alc h.n cs) := by
    show (bif m.isAlc then (match (h.push (.rw cs)).get h.n, m.alc e t with | some (.rw l), some (_, l') => bif eqAs l l' then some (Pa.alc h.n l) else none | _, _ => none) else some .skip) = _
    rw [hi, Hp.push_self, hp]
    obtain ⟨p1, p2⟩ := p
    simp only at hq
    subst hq
    simp [eqAs_refl]
  have ho : (Op1.eff m).run D e t h = .ret v (h.push (.rw cs)) := by simp only [Op1.run, hm]
  simp only [drGo, gdv, St1.g, St1.o, St1.d, ho, hpa, hc.out, cond_true]
  exact h1
theorem wd_ef {d : Ds} {m : Ef} {v : AV} {h' : Hp X} (hm : m.ev e t h = some (v, h')) (hc : Chk h' past chk) (H : WD D l (past ++ [.skip]) e' t' h' Q) (hi : m.isAlc = false := by rfl) (he : putE d v e = e' := by conv => lhs; whnf) (ht : putT d v t = t' := by conv => lhs; whnf) : WD D ((.mk none d (.eff m), chk) :: l) past e t h Q := by
  subst he ht
  obtain ⟨t', h'', h1, h2⟩ := H.out
  refine ⟨⟨t', h'', ?_, h2⟩⟩
  have hpa : paOf (.eff m) e t h v h' = some .skip := by
    show (bif m.isAlc then (match h'.get h.n, m.alc e t with | some (.rw l), some (_, l') => bif eqAs l l' then some (Pa.alc h.n l) else none | _, _ => none) else some Pa.skip) = some Pa.skip
    rw [hi]
    rfl
  have ho : (Op1.eff m).run D e t h = .ret v h' := by simp only [Op1.run, hm]
  simp only [drGo, gdv, St1.g, St1.o, St1.d, ho, hpa, hc.out, cond_true]
  exact h1
theorem wd_app {k z by' : Nat} {x y : Od} {v w : AV} {n m : Nat} {cells vs : List AV} (hx : x.ev e t = v) (hy : y.ev e t = w) (ho : OS h z v n cells) (hz : 0 < z) (hw : RS h z w m vs) (h1 : (n + m) * by' ≤ 140737488355328) (h2 : n + m ≤ maxLen)
    (H : ∀ v' h', OS h' z v' (n + m) (cells ++ vs) → Keep (blk v) h h' → (∀ g, blk v' g → blk v g ∨ h.n ≤ g) → Chk h' past chk ∧ WD D l (past ++ [.skip]) ((k, v') :: e) t h' Q) : WD D ((.mk none (.env k) (.eff (.append z by' x y)), chk) :: l) past e t h Q := by
  obtain ⟨v', h', e1, e2, e3, e4⟩ := ho.app hz hw.len h1 h2
  obtain ⟨q1, q2⟩ := H v' h' e2 e3 e4
  exact wd_ef (by simp only [Ef.ev, hy, hw.elems, hx, e1]) q1 q2 rfl rfl rfl
end
end Am
end Go.Proofs.Ythgcdoahoechhaa
namespace Go.Proofs.Ythgcdoahoechhaa
namespace Am
open Go.RowKit
set_option maxRecDepth 100000
section
variable {X : Type} {E : Nat → Option (Ent X)}
theorem Rdr.push {h : Hp X} {g m : Nat} {bs : List UInt8} (a : Rdr h g m bs) (c : AB X) : Rdr (h.push c) g m bs := a.keep (Keep.push NoB h c) (fun _ _ _ _ q => q) (fun q => q)
theorem Rdr.put {h : Hp X} {g m j : Nat} {bs : List UInt8} (a : Rdr h g m bs) (c : AB X) (hj : j ≠ g) (hm : m ≤ j) : Rdr (h.put j c) g m bs := by
  obtain ⟨lt, bv, h1, h2, h3, h4⟩ := a
  refine ⟨lt, bv, by rw [Hp.put_ne _ _ _ (Ne.symm hj)]; exact h1, h2.keep (Keep.put (S := OneB j) h j c rfl) (fun k hk q => ?_), h3, h4⟩
  have := h4 k hk
  have : k = j := q
  omega
end
end Am
end Go.Proofs.Ythgcdoahoechhaa
namespace Go.Proofs.Ythgcdoahoechhaa
namespace Am
open Go.RowKit
set_option maxRecDepth 100000
section
variable {X : Type} {D : Dp X}
structure WDX (D : Dp X) (l : Dr) (past : List (Pa X)) (e : En) (t : List AV) (h : Hp X) (t0 : List AV) (Q : R X → Prop) : Prop where
  out : ∃ r, drGo D l past e t h = r ∧ r ≠ .bad ∧ Q (panR t0 r)
variable {l : Dr} {past : List (Pa X)} {e : En} {t : List AV} {h : Hp X} {t0 : List AV} {Q : R X → Prop}
theorem WDX.of (H : WD D l past e t h Q) : WDX D l past e t h t0 Q := by
  obtain ⟨t', h', h1, h2⟩ := H.out
  exact ⟨⟨_, h1, (fun e => by cases e), h2⟩⟩
end
end Am
end Go.Proofs.Ythgcdoahoechhaa
namespace Go.Proofs.Ythgcdoahoechhaa
namespace Am
open Go.RowKit
set_option maxRecDepth 100000
section
variable {X : Type} {h h' : Hp X}
structure EntsF (h : Hp X) (v : AV) (l : List EM) (F : Nat → Prop) : Prop where
  out : ∃ tri : List T3, RS h 3 v l.length (tri.flatMap f3) ∧ tri.length = l.length ∧ (∀ (i : Nat) q e, tri[i]? = some q → l[i]? = some e → EntV h q e) ∧ (∀ k, blk v k → F k) ∧ ∀ q ∈ tri, ∀ k, blk q.1 k ∨ blk q.2.1 k → F k
theorem EntV.keep {S : Nat → Prop} {q : T3} {e : EM} (a : EntV h q e) (k : Keep S h h') (hs : ∀ k, blk q.1 k ∨ blk q.2.1 k → ¬ S k) : EntV h' q e := ⟨a.gone, a.key.keep k (fun j hj => hs j (.inl hj)), a.val.keep k (fun j hj => hs j (.inr hj))⟩
theorem EntsF.keep {S F : Nat → Prop} {v : AV} {l : List EM} (a : EntsF h v l F) (k : Keep S h h') (hs : ∀ k, F k → ¬ S k) : EntsF h' v l F := by
  obtain ⟨tri, h1, h2, h3, h4, h5⟩ := a.out
  exact ⟨tri, h1.keep k (fun j hj => hs j (h4 j hj)), h2, fun i q e q1 q2 => (h3 i q e q1 q2).keep k (fun j hj => hs j (h5 q (List.mem_of_getElem? q1) j hj)), h4, h5⟩
theorem EntsF.up {F : Nat → Prop} {v : AV} {l : List EM} (a : EntsF h v l F) (k : Keep NoB h h') : EntsF h' v l F := a.keep k (fun _ _ q => q)
theorem EntsF.on {F G : Nat → Prop} {v : AV} {l : List EM} (a : EntsF h v l F) (hs : ∀ k, F k → G k) : EntsF h v l G := by
  obtain ⟨tri, h1, h2, h3, h4, h5⟩ := a.out
  exact ⟨tri, h1, h2, h3, fun k q => hs k (h4 k q), fun q hq k hk => hs k (h5 q hq k hk)⟩
theorem EntsF.ents {F : Nat → Prop} {v : AV} {l : List EM} (a : EntsF h v l F) : Ents h v l := by
  obtain ⟨tri, h1, h2, h3, _⟩ := a.out
  exact ⟨tri, h1, h2, h3⟩
theorem EntsF.nil {F : Nat → Prop} : EntsF h .snil [] F := ⟨[], ⟨rfl, rfl⟩, rfl, fun i q e q1 => by simp at q1, fun k q => q.elim, fun q hq => by simp at hq⟩
end
end Am
end Go.Proofs.Ythgcdoahoechhaa
namespace Go.Proofs.Ythgcdoahoechhaa
namespace Am
open Go.RowKit
set_option maxRecDepth 100000
section
variable {X : Type} {e : En} {t : List AV} {h : Hp X}
theorem v_sne_f {q : Eq} {x y : Od} {a b : List UInt8} (hx : x.ev e t = .str a) (hy : y.ev e t = .str b) (hab : a = b) : (Mv.bin .neq q x y).ev e t h = some (.bool false) := by
  rw [v_sneq hx hy, hab]; simp
theorem v_sne_t {q : Eq} {x y : Od} {a b : List UInt8} (hx : x.ev e t = .str a) (hy : y.ev e t = .str b) (hab : a ≠ b) : (Mv.bin .neq q x y).ev e t h = some (.bool true) := by
  rw [v_sneq hx hy, beq_false_of_ne hab]; rfl
end
end Am
end Go.Proofs.Ythgcdoahoechhaa
namespace Go.Proofs.Ythgcdoahoechhaa
namespace Am
open Go.RowKit
set_option maxRecDepth 100000
section
variable {X : Type} {h h' : Hp X}
theorem EntV.lt {q : T3} {e : EM} (a : EntV h q e) : ∀ k, blk q.1 k ∨ blk q.2.1 k → k < h.n := fun k hk => by rcases hk with hk | hk; exact a.key.lt k hk; exact a.val.lt k hk
theorem EntsF.lt {v : AV} {l : List EM} {F : Nat → Prop} (a : EntsF h v l F) : EntsF h v l (fun k => F k ∧ k < h.n) := by
  obtain ⟨tri, h1, h2, h3, h4, h5⟩ := a.out
  refine ⟨tri, h1, h2, h3, fun k q => ⟨h4 k q, h1.lt k q⟩, fun q hq k hk => ⟨h5 q hq k hk, ?_⟩⟩
  obtain ⟨i, hi⟩ := List.mem_iff_getElem?.1 hq
  have hil := (List.getElem?_eq_some_iff.1 hi).1
  exact (h3 i q _ hi (List.getElem?_eq_getElem (by omega))).lt k hk
structure OE (h : Hp X) (v : AV) (l : List EM) (lo : Nat) (F : Nat → Prop) : Prop where
  out : ∃ tri : List T3, OS h 3 v l.length (tri.flatMap f3) ∧ tri.length = l.length ∧ (∀ (i : Nat) q e, tri[i]? = some q → l[i]? = some e → EntV h q e) ∧ (∀ k, blk v k → lo ≤ k) ∧ ∀ q ∈ tri, ∀ k, blk q.1 k ∨ blk q.2.1 k → F k ∧ ¬ blk v k
theorem OE.nil {lo : Nat} {F : Nat → Prop} : OE h .snil [] lo F := ⟨[], ⟨rfl, rfl⟩, rfl, fun i q e q1 => by simp at q1, fun k q => q.elim, fun q hq => by simp at hq⟩
theorem OE.keep {S : Nat → Prop} {v : AV} {l : List EM} {lo : Nat} {F : Nat → Prop} (a : OE h v l lo F) (k : Keep S h h') (hs : ∀ k, S k → k < h.n → False) : OE h' v l lo F := by
  obtain ⟨tri, h1, h2, h3, h4, h5⟩ := a.out
  exact ⟨tri, h1.keep k (fun j hj q => hs j q (h1.lt j hj)), h2, fun i q e q1 q2 => (h3 i q e q1 q2).keep k (fun j hj q => hs j q ((h3 i _ e q1 q2).lt j hj)), h4, h5⟩
theorem OE.up {v : AV} {l : List EM} {lo : Nat} {F : Nat → Prop} (a : OE h v l lo F) (k : Keep NoB h h') : OE h' v l lo F := a.keep k (fun _ q _ => q.elim)
theorem OE.lt {v : AV} {l : List EM} {lo : Nat} {F : Nat → Prop} (a : OE h v l lo F) : ∀ k, blk v k → k < h.n := by obtain ⟨_, h1, _⟩ := a.out; exact h1.lt
theorem OE.lo {v : AV} {l : List EM} {lo : Nat} {F : Nat → Prop} (a : OE h v l lo F) : ∀ k, blk v k → lo ≤ k := by obtain ⟨_, _, _, _, h4, _⟩ := a.out; exact h4
theorem OE.one {v : AV} {l : List EM} {lo : Nat} {F : Nat → Prop} (a : OE h v l lo F) : cellsOf v = some [v] ∧ v.one = true := by obtain ⟨_, h1, _⟩ := a.out; exact h1.one
theorem OE.next {v : AV} {l : List EM} {lo : Nat} {F : Nat → Prop} {q : T3} {e : EM} (a : OE h v l lo F) (hv : EntV h q e) (hn : ∀ k, blk q.1 k ∨ blk q.2.1 k → F k ∧ ¬ blk v k) (hlo : lo ≤ h.n) :
    ∃ cells, OS (h.push (.rw (f3 q))) 3 v l.length cells ∧ RS (h.push (.rw (f3 q))) 3 (.slice 3 h.n 0 1 (some 1)) 1 (f3 q) ∧ ∀ v' h', OS h' 3 v' (l.length + 1) (cells ++ f3 q) → Keep (blk v) (h.push (.rw (f3 q))) h' → (∀ g, blk v' g → blk v g ∨ (h.push (.rw (f3 q))).n ≤ g) → OE h' v' (l ++ [e]) lo F ∧ Keep (blk v) h h' := by
  obtain ⟨tri, h1, h2, h3, h4, h5⟩ := a.out
  have kp : Keep NoB h (h.push (.rw (f3 q))) := Keep.push _ _ _
  refine ⟨_, h1.up kp, rs_push (n := 1) (z := 3) rfl, fun v' h' a1 a2 a3 => ⟨⟨tri ++ [q], ?_, by simp [h2], ?_, ?_, ?_⟩, kp.any.trans a2 (fun _ _ q => q)⟩⟩
  · rw [List.length_append, List.flatMap_append]
    exact a1
  · intro i r x q1 q2
    by_cases hi : i < l.length
    · rw [List.getElem?_append_left (by omega)] at q1
      rw [List.getElem?_append_left hi] at q2
      exact ((h3 i r x q1 q2).up kp).keep a2 (fun k hk => (h5 r (List.mem_of_getElem? q1) k hk).2)
    · have h6 := (List.getElem?_eq_some_iff.1 q2).1
      rw [List.length_append, List.length_singleton] at h6
      have h7 : i = l.length := by omega
      subst h7
      rw [List.getElem?_append_right (Nat.le_refl _), Nat.sub_self] at q2
      rw [← h2, List.getElem?_append_right (Nat.le_refl _), Nat.sub_self] at q1
      simp at q1 q2
      subst q1 q2
      exact (hv.up kp).keep a2 (fun k hk => (hn k hk).2)
  · intro k hk
    rcases a3 k hk with hk | hk
    · exact h4 k hk
    · simp only [push_n] at hk; omega
  · intro r hr k hk
    have hlt : k < h.n ∧ F k ∧ ¬ blk v k := by
      rcases List.mem_append.1 hr with hr | hr
      · obtain ⟨i, hi⟩ := List.mem_iff_getElem?.1 hr
        have hil := (List.getElem?_eq_some_iff.1 hi).1
        exact ⟨(h3 i r _ hi (List.getElem?_eq_getElem (by omega))).lt k hk, h5 r hr k hk⟩
      · simp at hr
        subst hr
        exact ⟨hv.lt k hk, hn k hk⟩
    refine ⟨hlt.2.1, fun q6 => ?_⟩
    rcases a3 k q6 with q | q
    · exact hlt.2.2 q
    · simp only [push_n] at q; omega
structure Bats (h : Hp X) (v : AV) (ls : List (List EM)) (F : Nat → Prop) : Prop where
  out : ∃ cells, RS h 1 v ls.length cells ∧ (∀ k, blk v k → F k) ∧ ∀ (i : Nat) l, ls[i]? = some l → ∃ c, cells[i]? = some c ∧ EntsF h c l F
theorem Bats.keep {S F : Nat → Prop} {v : AV} {ls : List (List EM)} (a : Bats h v ls F) (k : Keep S h h') (hs : ∀ k, F k → ¬ S k) : Bats h' v ls F := by
  obtain ⟨cells, h1, h2, h3⟩ := a.out
  refine ⟨cells, h1.keep k (fun j hj => hs j (h2 j hj)), h2, fun i l hi => ?_⟩
  obtain ⟨c, h4, h5⟩ := h3 i l hi
  exact ⟨c, h4, h5.keep k hs⟩
theorem Bats.up {F : Nat → Prop} {v : AV} {ls : List (List EM)} (a : Bats h v ls F) (k : Keep NoB h h') : Bats h' v ls F := a.keep k (fun _ _ q => q)
theorem Bats.on {F G : Nat → Prop} {v : AV} {ls : List (List EM)} (a : Bats h v ls F) (hs : ∀ k, F k → G k) : Bats h v ls G := by
  obtain ⟨cells, h1, h2, h3⟩ := a.out
  refine ⟨cells, h1, fun k q => hs k (h2 k q), fun i l hi => ?_⟩
  obtain ⟨c, h4, h5⟩ := h3 i l hi
  exact ⟨c, h4, h5.on hs⟩
theorem Bats.lt {F : Nat → Prop} {v : AV} {ls : List (List EM)} (a : Bats h v ls F) : Bats h v ls (fun k => F k ∧ k < h.n) := by
  obtain ⟨cells, h1, h2, h3⟩ := a.out
  refine ⟨cells, h1, fun k q => ⟨h2 k q, h1.lt k q⟩, fun i l hi => ?_⟩
  obtain ⟨c, h4, h5⟩ := h3 i l hi
  exact ⟨c, h4, h5.lt⟩
structure OB (h : Hp X) (v : AV) (ls : List (List EM)) (lo : Nat) (F : Nat → Prop) : Prop where
  out : ∃ cells, OS h 1 v ls.length cells ∧ (∀ k, blk v k → lo ≤ k) ∧ ∀ (i : Nat) l, ls[i]? = some l → ∃ c, cells[i]? = some c ∧ EntsF h c l (fun k => F k ∧ ¬ blk v k)
theorem OB.nil {lo : Nat} {F : Nat → Prop} : OB h .snil [] lo F := ⟨[], ⟨rfl, rfl⟩, fun k q => q.elim, fun i l q => by simp at q⟩
theorem OB.keep {S F : Nat → Prop} {v : AV} {ls : List (List EM)} {lo : Nat} (a : OB h v ls lo F) (k : Keep S h h') (hv : ∀ k, blk v k → ¬ S k) (hs : ∀ k, F k → k < h.n → ¬ S k) : OB h' v ls lo F := by
  obtain ⟨cells, h1, h2, h3⟩ := a.out
  refine ⟨cells, h1.keep k hv, h2, fun i l hi => ?_⟩
  obtain ⟨c, h4, h5⟩ := h3 i l hi
  exact ⟨c, h4, (h5.lt.keep k (fun j hj => hs j hj.1.1 hj.2)).on (fun _ q => q.1)⟩
theorem OB.up {F : Nat → Prop} {v : AV} {ls : List (List EM)} {lo : Nat} (a : OB h v ls lo F) (k : Keep NoB h h') : OB h' v ls lo F := a.keep k (fun _ _ q => q) (fun _ _ _ q => q)
theorem OB.rs {F : Nat → Prop} {v : AV} {ls : List (List EM)} {lo : Nat} (a : OB h v ls lo F) : ∃ cells, RS h 1 v ls.length cells := by obtain ⟨_, h1, _⟩ := a.out; exact ⟨_, h1.rs⟩
theorem OB.lo {F : Nat → Prop} {v : AV} {ls : List (List EM)} {lo : Nat} (a : OB h v ls lo F) : ∀ k, blk v k → lo ≤ k := by obtain ⟨_, _, h2, _⟩ := a.out; exact h2
theorem OB.lt {F : Nat → Prop} {v : AV} {ls : List (List EM)} {lo : Nat} (a : OB h v ls lo F) : ∀ k, blk v k → k < h.n := by obtain ⟨_, h1, _⟩ := a.out; exact h1.lt
theorem OB.bats {F G : Nat → Prop} {v : AV} {ls : List (List EM)} {lo : Nat} (a : OB h v ls lo F) (h1 : ∀ k, lo ≤ k → k < h.n → G k) (h2 : ∀ k, F k → G k) : Bats h v ls G := by
  obtain ⟨cells, g1, g2, g3⟩ := a.out
  refine ⟨cells, g1.rs, fun k q => h1 k (g2 k q) (g1.lt k q), fun i l hi => ?_⟩
  obtain ⟨c, h4, h5⟩ := g3 i l hi
  exact ⟨c, h4, h5.on (fun k q => h2 k q.1)⟩
theorem EntsF.one {v : AV} {l : List EM} {F : Nat → Prop} (a : EntsF h v l F) : cellsOf v = some [v] ∧ v.one = true := by obtain ⟨_, h1, _⟩ := a.out; exact h1.one
theorem OB.next {v c : AV} {ls : List (List EM)} {l : List EM} {lo : Nat} {F : Nat → Prop} (a : OB h v ls lo F) (hv : EntsF h c l (fun k => F k ∧ ¬ blk v k)) (hlo : lo ≤ h.n) :
    ∃ cells, OS (h.push (.rw [c])) 1 v ls.length cells ∧ RS (h.push (.rw [c])) 1 (.slice 1 h.n 0 1 (some 1)) 1 [c] ∧ ∀ v' h', OS h' 1 v' (ls.length + 1) (cells ++ [c]) → Keep (blk v) (h.push (.rw [c])) h' → (∀ g, blk v' g → blk v g ∨ (h.push (.rw [c])).n ≤ g) → OB h' v' (ls ++ [l]) lo F ∧ Keep (blk v) h h' := by
  obtain ⟨cells, h1, h4, h3⟩ := a.out
  have kp : Keep NoB h (h.push (.rw [c])) := Keep.push _ _ _
  have hll := h1.len
  refine ⟨_, h1.up kp, rs_push (n := 1) (z := 1) rfl, fun v' h' a1 a2 a3 => ⟨⟨cells ++ [c], ?_, ?_, ?_⟩, kp.any.trans a2 (fun _ _ q => q)⟩⟩
  · rw [List.length_append]
    exact a1
  · intro k hk
    rcases a3 k hk with hk | hk
    · exact h4 k hk
    · simp only [push_n] at hk; omega
  · have mv : ∀ {c : AV} {l : List EM}, EntsF h c l (fun k => F k ∧ ¬ blk v k) → EntsF h' c l (fun k => F k ∧ ¬ blk v' k) := fun {c l} q => by
      refine ((q.lt.up kp).keep a2 (fun k hk => hk.1.2)).on (fun k hk => ⟨hk.1.1, fun q => ?_⟩)
      rcases a3 k q with q | q
      · exact hk.1.2 q
      · have := hk.2; simp only [push_n] at q; omega
    intro i x q2
    by_cases hi : i < ls.length
    · rw [List.getElem?_append_left hi] at q2
      obtain ⟨d, h6, h7⟩ := h3 i x q2
      exact ⟨d, by rw [List.getElem?_append_left (by omega)]; exact h6, mv h7⟩
    · have h6 := (List.getElem?_eq_some_iff.1 q2).1
      rw [List.length_append, List.length_singleton] at h6
      have h7 : i = ls.length := by omega
      subst h7
      rw [List.getElem?_append_right (Nat.le_refl _), Nat.sub_self] at q2
      simp at q2
      subst q2
      refine ⟨c, ?_, mv hv⟩
      rw [List.getElem?_append_right (by omega), show ls.length - cells.length = 0 by omega]
      rfl
end
end Am
end Go.Proofs.Ythgcdoahoechhaa
