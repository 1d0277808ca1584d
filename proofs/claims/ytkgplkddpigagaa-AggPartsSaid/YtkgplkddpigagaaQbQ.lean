/- Layer 23, plainly: series of the same times; parts, joined, are the whole. -/
import Derived.Test.YtkgplkddpigagaaQbP
import Derived.Test.YtkgplkddpigagaaQaV
set_option linter.unusedVariables false
set_option linter.unusedSimpArgs false
namespace Go.Proofs.Ytkgplkddpigagaa
namespace Am
open Go.RowKit
set_option maxRecDepth 100000
def zst (how x y : Int) : Int := if how = 1 then x + y else if how = 2 then min x y else max x y
def zgo (how : Int) (x : Int) : List Int → Int
  | [] => x
  | y :: l => zgo how (zst how x y) l
def zfold (how : Int) : List Int → Int
  | [] => 0
  | x :: l => zgo how x l
theorem zst_assoc (how x y z : Int) : zst how (zst how x y) z = zst how x (zst how y z) := by
  unfold zst
  repeat' split
  all_goals omega
theorem zgo_st {how : Int} : ∀ {l : List Int} {x y : Int}, zgo how (zst how x y) l = zst how x (zgo how y l)
  | [], x, y => rfl
  | z :: l, x, y => by
    show zgo how (zst how (zst how x y) z) l = zst how x (zgo how (zst how y z) l)
    rw [zst_assoc, zgo_st]
theorem zgo_app {how : Int} : ∀ {l m : List Int} {x y : Int}, zgo how x (l ++ y :: m) = zst how (zgo how x l) (zgo how y m)
  | [], m, x, y => by
    show zgo how (zst how x y) m = _
    rw [zgo_st]; rfl
  | z :: l, m, x, y => by
    show zgo how (zst how x z) (l ++ y :: m) = _
    rw [zgo_app]; rfl
def sumA : List Nat → Nat
  | [] => 0
  | x :: l => x + sumA l
theorem sumA_app : ∀ {l m : List Nat}, sumA (l ++ m) = sumA l + sumA m
  | [], m => by simp [sumA]
  | x :: l, m => by show x + sumA (l ++ m) = x + sumA l + sumA m; rw [sumA_app]; omega
inductive ValL : List QQ → List Int → List Nat → Prop
  | nil : ValL [] [] []
  | cons {q : QQ} {z : Int} {b : Nat} {ql : List QQ} {zl : List Int} {bl : List Nat} (a : ValZ q z) (c : z.natAbs ≤ b) (t : ValL ql zl bl) : ValL (q :: ql) (z :: zl) (b :: bl)
theorem goF_val {how : Int} (hh : how = 1 ∨ how = 2 ∨ how = 3) : ∀ {ql : List QQ} {zl : List Int} {bl : List Nat}, ValL ql zl bl → ∀ {a : QQ} {x : Int} {b : Nat}, ValZ a x → x.natAbs ≤ b → b + sumA bl ≤ maxN → ∃ r, goF how a ql = (r, 0) ∧ ValZ r (zgo how x zl) ∧ (zgo how x zl).natAbs ≤ b + sumA bl := by
  intro ql zl bl H
  induction H with
  | nil => intro a x b ha hx hb; exact ⟨a, rfl, ha, by unfold zgo sumA; omega⟩
  | @cons q z c ql zl bl hq hc H ih =>
    intro a x b ha hx hb
    simp only [sumA] at hb ⊢
    have hs : ∃ r, stepF how a q = (r, 0) ∧ ValZ r (zst how x z) := by
      unfold stepF zst
      rcases hh with rfl | rfl | rfl
      · obtain ⟨r, h1, h2⟩ := ha.add hq (by omega)
        exact ⟨r, h1, h2⟩
      · rw [if_pos rfl, hq.cmp ha]
        simp only [reduceCtorEq, if_false, if_true]
        by_cases c1 : z < x
        · exact ⟨q, by rw [if_pos c1]; simp, by rw [if_neg (by omega), show min x z = z by omega]; exact hq⟩
        · refine ⟨a, ?_, by rw [if_neg (by omega), show min x z = x by omega]; exact ha⟩
          rw [if_neg c1]
          by_cases c2 : z = x
          · rw [if_pos c2]; simp
          · rw [if_neg c2]; simp
      · have e1 : (if (3 : Int) = 1 then x + z else if (3 : Int) = 2 then min x z else max x z) = max x z := by rw [if_neg (by decide), if_neg (by decide)]
        have e2 : ∀ (u v w y : QQ × Int), (if (3 : Int) = 2 then u else if (3 : Int) = 3 then v else if (3 : Int) = 5 ∨ (3 : Int) = 6 then w else if (3 : Int) = 7 then y else addF a q) = v := fun u v w y => by rw [if_neg (by decide), if_pos rfl]
        rw [e1, e2, hq.cmp ha]
        by_cases c1 : x < z
        · have e3 : (if z < x then (-1 : Int) else if z = x then 0 else 1) = 1 := by rw [if_neg (by omega), if_neg (by omega)]
          rw [e3, show max x z = z by omega]
          exact ⟨q, rfl, hq⟩
        · have e3 : ¬ 0 < (if z < x then (-1 : Int) else if z = x then 0 else 1) := by
            by_cases c2 : z < x
            · rw [if_pos c2]; omega
            · rw [if_neg c2, if_pos (by omega)]; omega
          rw [if_neg e3, show max x z = x by omega]
          exact ⟨a, rfl, ha⟩
    obtain ⟨r, h1, h2⟩ := hs
    have hb' : (zst how x z).natAbs ≤ b + c := by
      unfold zst
      split
      · omega
      · split <;> omega
    obtain ⟨r', h3, h4, h5⟩ := ih h2 hb' (by omega)
    refine ⟨r', ?_, h4, by show (zgo how (zst how x z) zl).natAbs ≤ _; omega⟩
    unfold goF
    rw [h1]
    simp only [ne_eq, not_true_eq_false, if_false]
    exact h3
theorem ValL.right {ql : List QQ} {zl : List Int} {bl : List Nat} (H : ValL ql zl bl) : ql.all rightF = true := by
  induction H with
  | nil => rfl
  | cons a c t ih => rw [List.all_cons, a.rf, ih]; rfl
theorem foldF_val {how : Int} (hh : how = 1 ∨ how = 2 ∨ how = 3) {ql : List QQ} {zl : List Int} {bl : List Nat} (H : ValL ql zl bl) (hn : ql ≠ []) (hb : sumA bl ≤ maxN) (hl : ql.length ≤ maxN) : ∃ r, foldF how ql = (r, 0) ∧ ValZ r (zfold how zl) ∧ (zfold how zl).natAbs ≤ sumA bl := by
  have hr := H.right
  cases H with
  | nil => exact absurd rfl hn
  | @cons a x b ql zl bl ha hx H =>
    simp only [sumA] at hb ⊢
    obtain ⟨r, h1, h2, h3⟩ := goF_val hh H ha hx hb
    refine ⟨r, ?_, h2, h3⟩
    show foldF1 how a ql = _
    obtain ⟨q, hq⟩ := newF_fit (n := (ql.length + 1 : Nat)) (d := 1) (by omega) (by simp at hl; omega) (by decide)
    unfold foldF1
    rw [hr, h1, hq.eq]
    rcases hh with rfl | rfl | rfl <;> simp
structure SerZ (T : List Int) (l : List SM) (f : Int → Int) (b : Nat) : Prop where
  right : RightS l
  tm : l.map SM.t = T
  val : ∀ s ∈ l, ValZ s.q (f s.t) ∧ (f s.t).natAbs ≤ b
theorem SerZ.at {T : List Int} {l : List SM} {f : Int → Int} {b : Nat} (a : SerZ T l f b) {t : Int} (ht : t ∈ T) : ∃ q, atF l t = ((q, true), 0) ∧ ValZ q (f t) ∧ (f t).natAbs ≤ b := by
  rw [← a.tm, List.mem_map] at ht
  obtain ⟨s, hs, rfl⟩ := ht
  exact ⟨s.q, atF_own a.right hs, a.val s hs⟩
theorem SerZ.uniq {T : List Int} {l m : List SM} {f g : Int → Int} {b c : Nat} (a : SerZ T l f b) (d : SerZ T m g c) (h : ∀ t ∈ T, f t = g t) : l = m := by
  have hlen : l.length = m.length := by have h1 := congrArg List.length a.tm; have h2 := congrArg List.length d.tm; rw [List.length_map] at h1 h2; omega
  refine List.ext_getElem hlen fun i h1 h2 => ?_
  have e1 : (l[i]).t = (m[i]).t := by
    have := (List.getElem_map SM.t (l := l) (i := i) (h := by simpa using h1)).symm.trans ((by simp only [a.tm, d.tm] : (l.map SM.t)[i]'(by simpa using h1) = (m.map SM.t)[i]'(by simpa using h2)).trans (List.getElem_map SM.t (l := m) (i := i) (h := by simpa using h2)))
    exact this
  have v1 := (a.val _ (List.getElem_mem h1)).1
  have v2 := (d.val _ (List.getElem_mem h2)).1
  have ht : (l[i]).t ∈ T := by rw [← a.tm]; exact List.mem_map_of_mem (List.getElem_mem h1)
  rw [h _ ht, e1] at v1
  have e2 := v1.uniq v2
  generalize l[i] = p at *
  generalize m[i] = q at *
  obtain ⟨t, p⟩ := p
  obtain ⟨u, q⟩ := q
  simp only at e1 e2
  rw [e1, e2]
inductive SerZs (T : List Int) : List (List SM) → List (Int → Int) → List Nat → Prop
  | nil : SerZs T [] [] []
  | cons {l : List SM} {f : Int → Int} {b : Nat} {ls : List (List SM)} {fs : List (Int → Int)} {bs : List Nat} (a : SerZ T l f b) (c : SerZs T ls fs bs) : SerZs T (l :: ls) (f :: fs) (b :: bs)
theorem SerZs.at {T : List Int} {ls : List (List SM)} {fs : List (Int → Int)} {bs : List Nat} (H : SerZs T ls fs bs) {t : Int} (ht : t ∈ T) : ∃ ql, ValL ql (fs.map (· t)) bs ∧ ql.length = ls.length ∧ ∀ out, atsG t out ls = (out ++ ql, 0) := by
  induction H with
  | nil => exact ⟨[], .nil, rfl, fun out => by simp [atsG]⟩
  | cons a c ih =>
    obtain ⟨ql, h1, h2, h3⟩ := ih
    obtain ⟨q, g1, g2, g3⟩ := a.at ht
    refine ⟨q :: ql, .cons g2 g3 h1, by simp [h2], fun out => ?_⟩
    unfold atsG
    rw [g1]
    simp only [ne_eq, not_true_eq_false, if_false, if_true]
    rw [h3, List.append_assoc]
    rfl
theorem SerZs.right {T : List Int} {ls : List (List SM)} {fs : List (Int → Int)} {bs : List Nat} (H : SerZs T ls fs bs) : ∀ l ∈ ls, RightS l ∧ l.map SM.t = T := by
  induction H with
  | nil => intro l hl; cases hl
  | cons a c ih =>
    intro l hl
    rcases List.mem_cons.1 hl with rfl | hl
    · exact ⟨a.right, a.tm⟩
    · exact ih l hl
theorem SerZs.flen {T : List Int} {ls : List (List SM)} {fs : List (Int → Int)} {bs : List Nat} (H : SerZs T ls fs bs) : fs.length = ls.length ∧ bs.length = ls.length := by
  induction H with
  | nil => exact ⟨rfl, rfl⟩
  | cons a c ih => simp [ih.1, ih.2]
theorem SerZs.split {T : List Int} {ls : List (List SM)} {fs : List (Int → Int)} {bs : List Nat} (H : SerZs T ls fs bs) : ∀ c, SerZs T (ls.take c) (fs.take c) (bs.take c) ∧ SerZs T (ls.drop c) (fs.drop c) (bs.drop c) := by
  induction H with
  | nil => intro c; simp; exact .nil
  | cons a b ih =>
    intro c
    cases c with
    | zero => exact ⟨.nil, .cons a b⟩
    | succ c => exact ⟨.cons a (ih c).1, (ih c).2⟩
theorem aggG_at {how : Int} {ls : List (List SM)} {f : Int → QQ} {qs : Int → List QQ} : ∀ {T : List Int} {out : List SM}, (∀ t ∈ T, atsG t [] ls = (qs t, 0) ∧ foldF how (qs t) = (f t, 0)) → aggG how ls out T = (out ++ T.map fun t => ⟨t, f t⟩, 0)
  | [], out, _ => by simp [aggG]
  | t :: l, out, h => by
    obtain ⟨h1, h2⟩ := h t (List.mem_cons_self ..)
    unfold aggG
    rw [h1]
    simp only [ne_eq, not_true_eq_false, if_false, h2]
    rw [aggG_at (f := f) (qs := qs) (fun s hs => h s (List.mem_cons_of_mem _ hs)), List.append_assoc]
    rfl
theorem agg_z {how : Int} (hh : how = 1 ∨ how = 2 ∨ how = 3) {T : List Int} {ls : List (List SM)} {fs : List (Int → Int)} {bs : List Nat} (H : SerZs T ls fs bs) (hn : ls ≠ []) (hb : sumA bs ≤ maxN) (hl : ls.length ≤ maxN) :
    ∃ r, aggF how ls = (r, 0) ∧ SerZ T r (fun t => zfold how (fs.map (· t))) (sumA bs) := by
  have hR := H.right
  obtain ⟨l0, ls', rfl⟩ : ∃ l0 ls', ls = l0 :: ls' := by cases ls with | nil => exact absurd rfl hn | cons a b => exact ⟨a, b, rfl⟩
  have h0 := hR l0 (List.mem_cons_self ..)
  have hT : timesF (l0 :: ls') = T := by
    rw [← h0.2]
    refine timesF_same h0.1 fun x => ⟨fun ⟨k, hk, s, hs, e⟩ => ?_, fun ⟨s, hs, e⟩ => ⟨l0, List.mem_cons_self .., s, hs, e⟩⟩
    have hx : x ∈ k.map SM.t := by rw [← e]; exact List.mem_map_of_mem hs
    rw [(hR k hk).2, ← h0.2, List.mem_map] at hx
    exact hx
  have key : ∀ t, ∃ (ql : List QQ) (q : QQ), t ∈ T → atsG t [] (l0 :: ls') = (ql, 0) ∧ foldF how ql = (q, 0) ∧ ValZ q (zfold how (fs.map (· t))) ∧ (zfold how (fs.map (· t))).natAbs ≤ sumA bs := fun t => by
    by_cases ht : t ∈ T
    · obtain ⟨ql, g1, g2, g3⟩ := H.at ht
      obtain ⟨q, k1, k2, k3⟩ := foldF_val hh g1 (by intro e; rw [e] at g2; cases g2) hb (by omega)
      exact ⟨ql, q, fun _ => ⟨by rw [g3]; rfl, k1, k2, k3⟩⟩
    · exact ⟨[], (0, 0), fun h => absurd h ht⟩
  obtain ⟨qs, key⟩ := Classical.axiomOfChoice key
  obtain ⟨f, key⟩ := Classical.axiomOfChoice key
  have e : aggF how (l0 :: ls') = (T.map fun t => ⟨t, f t⟩, 0) := by
    unfold aggF
    rw [if_neg (by
      rintro (q | ⟨k, hk, q⟩)
      · rcases hh with rfl | rfl | rfl <;> cases q
      · exact q (hR k hk).1), hT, aggG_at (out := []) (f := f) (qs := qs) (fun t ht => ⟨(key t ht).1, (key t ht).2.1⟩), List.nil_append]
  refine ⟨_, e, ?_⟩
  have htm : (T.map fun t => (⟨t, f t⟩ : SM)).map SM.t = T := by rw [List.map_map]; exact List.map_id' T
  refine ⟨fun i s hs => ?_, htm, fun s hs => ?_⟩
  · have hsm : s.t ∈ T := by rw [← htm]; exact List.mem_map_of_mem (List.mem_of_getElem? hs)
    have hin := hsm
    rw [← h0.2, List.mem_map] at hin
    obtain ⟨s', hs', e'⟩ := hin
    obtain ⟨j, hj⟩ := List.mem_iff_getElem?.1 hs'
    have ok := h0.1 j s' hj
    have sf : s = ⟨s.t, f s.t⟩ := by
      obtain ⟨t, _, e⟩ := List.mem_map.1 (List.mem_of_getElem? hs)
      subst e; rfl
    refine ⟨by have := ok.t0; omega, by have := ok.t1; omega, by rw [sf]; exact (key s.t hsm).2.2.1.rf, fun p hi hp => ?_⟩
    have hr : T.Pairwise (· < ·) := by rw [← h0.2]; exact h0.1.rise
    rw [List.pairwise_iff_getElem] at hr
    rw [List.getElem?_map] at hs hp
    obtain ⟨t1, q1, q2⟩ := Option.map_eq_some_iff.1 hs
    obtain ⟨t2, q3, q4⟩ := Option.map_eq_some_iff.1 hp
    obtain ⟨i1, i2⟩ := List.getElem?_eq_some_iff.1 q1
    obtain ⟨i3, i4⟩ := List.getElem?_eq_some_iff.1 q3
    have := hr (i - 1) i i3 i1 (by omega)
    rw [i2, i4] at this
    subst q2 q4
    exact this
  · obtain ⟨t, ht, e⟩ := List.mem_map.1 hs
    subst e
    exact (key t ht).2.2
theorem agg_none {how : Int} (hh : how = 1 ∨ how = 2 ∨ how = 3) : aggF how [] = ([], 0) := by
  unfold aggF
  rw [if_neg (by
    rintro (q | ⟨k, hk, q⟩)
    · rcases hh with rfl | rfl | rfl <;> cases q
    · cases hk)]
  show aggG how [] [] (timesF []) = _
  rw [show timesF [] = [] by unfold timesF sortI timesL; simp [dd]]
  rfl
theorem agg_skip {how : Int} {ls ms : List (List SM)} (h1 : ∀ l, l ≠ [] → (l ∈ ls ↔ l ∈ ms)) (h2 : ∀ t out, atsG t out ls = atsG t out ms) : aggF how ls = aggF how ms := by
  have hT : timesF ls = timesF ms := rise_uniq (timesF_rise _) (timesF_rise _) fun x => by
    rw [timesF_mem, timesF_mem]
    constructor
    · rintro ⟨l, hl, s, hs, e⟩; exact ⟨l, (h1 l (by intro q; subst q; cases hs)).1 hl, s, hs, e⟩
    · rintro ⟨l, hl, s, hs, e⟩; exact ⟨l, (h1 l (by intro q; subst q; cases hs)).2 hl, s, hs, e⟩
  have hG : ∀ T out, aggG how ls out T = aggG how ms out T := by
    intro T
    induction T with
    | nil => intro out; rfl
    | cons t T ih => intro out; unfold aggG; rw [h2, ih]
  have hR : (∃ l ∈ ls, ¬ RightS l) ↔ ∃ l ∈ ms, ¬ RightS l := by
    constructor
    · rintro ⟨l, hl, q⟩; exact ⟨l, (h1 l (by intro e; subst e; exact q right_nil)).1 hl, q⟩
    · rintro ⟨l, hl, q⟩; exact ⟨l, (h1 l (by intro e; subst e; exact q right_nil)).2 hl, q⟩
  unfold aggF
  rw [hT, hG]
  by_cases c : (decide (1 ≤ how) && decide (how ≤ 7)) = false ∨ ∃ l ∈ ls, ¬ RightS l
  · rw [if_pos c, if_pos (c.imp id hR.1)]
  · rw [if_neg c, if_neg (fun q => c (q.imp id hR.2))]
theorem agg_nilL {how : Int} {l : List SM} : aggF how [[], l] = aggF how [l] := agg_skip (fun k hk => by simp [hk]) (fun t out => by
  conv => lhs; unfold atsG
  rw [atF_nil]
  simp)
theorem agg_nilR {how : Int} {l : List SM} : aggF how [l, []] = aggF how [l] := agg_skip (fun k hk => by simp [hk]) (fun t out => by
  unfold atsG
  split
  · rfl
  · unfold atsG
    rw [atF_nil]
    simp [atsG])
theorem agg_nn {how : Int} (hh : how = 1 ∨ how = 2 ∨ how = 3) : aggF how [[], []] = ([], 0) := by
  rw [agg_nilL, ← agg_none hh]
  exact agg_skip (fun k hk => by simp [hk]) (fun t out => by unfold atsG; rw [atF_nil]; simp [atsG])
theorem zfold_app {how : Int} {xs ys : List Int} (h1 : xs ≠ []) (h2 : ys ≠ []) : zfold how (xs ++ ys) = zfold how [zfold how xs, zfold how ys] := by
  cases xs with
  | nil => exact absurd rfl h1
  | cons x xs =>
    cases ys with
    | nil => exact absurd rfl h2
    | cons y ys => exact zgo_app
theorem agg_parts {how : Int} (hh : how = 1 ∨ how = 2 ∨ how = 3) {T : List Int} {ls : List (List SM)} {fs : List (Int → Int)} {bs : List Nat} (H : SerZs T ls fs bs) (hb : sumA bs ≤ maxN) (hl : ls.length ≤ maxN) (c : Nat) (hc : c ≤ ls.length) :
    ∃ a b w, aggF how (ls.take c) = (a, 0) ∧ aggF how (ls.drop c) = (b, 0) ∧ aggF how ls = (w, 0) ∧ aggF how [a, b] = (w, 0) ∧ (a = [] ∨ a.map SM.t = T) ∧ (b = [] ∨ b.map SM.t = T) := by
  obtain ⟨H1, H2⟩ := H.split c
  have hbs : sumA (bs.take c) + sumA (bs.drop c) = sumA bs := by rw [← sumA_app, List.take_append_drop]
  obtain ⟨fl, bl⟩ := H.flen
  by_cases hn : ls = []
  · subst hn
    have hc0 : c = 0 := by simpa using hc
    subst hc0
    exact ⟨[], [], [], agg_none hh, agg_none hh, agg_none hh, agg_nn hh, .inl rfl, .inl rfl⟩
  · obtain ⟨w, e3, z3⟩ := agg_z hh H hn hb hl
    have one : aggF how [w] = (w, 0) := by
      obtain ⟨w', e4, z4⟩ := agg_z hh (SerZs.cons z3 .nil) (by simp) (by simpa [sumA] using hb) (show 1 ≤ maxN by decide)
      rw [e4, z4.uniq z3 (fun t _ => rfl)]
    by_cases c0 : c = 0
    · subst c0
      exact ⟨[], w, w, agg_none hh, e3, e3, by rw [agg_nilL, one], .inl rfl, .inr z3.tm⟩
    · by_cases cl : c = ls.length
      · subst cl
        rw [List.take_length, List.drop_length]
        exact ⟨w, [], w, e3, agg_none hh, e3, by rw [agg_nilR, one], .inr z3.tm, .inl rfl⟩
      · have n1 : ls.take c ≠ [] := by intro q; have := congrArg List.length q; rw [List.length_take, List.length_nil] at this; omega
        have n2 : ls.drop c ≠ [] := by intro q; have := congrArg List.length q; rw [List.length_drop] at this; simp at this; omega
        obtain ⟨a, e1, z1⟩ := agg_z hh H1 n1 (by omega) (by rw [List.length_take]; omega)
        obtain ⟨b, e2, z2⟩ := agg_z hh H2 n2 (by omega) (by rw [List.length_drop]; omega)
        obtain ⟨d, e4, z4⟩ := agg_z hh (SerZs.cons z1 (SerZs.cons z2 .nil)) (by simp) (by simp only [sumA]; omega) (show 2 ≤ maxN by decide)
        refine ⟨a, b, w, e1, e2, e3, ?_, .inr z1.tm, .inr z2.tm⟩
        rw [e4, z4.uniq z3 (fun t _ => ?_)]
        show zfold how [zfold how ((fs.take c).map (· t)), zfold how ((fs.drop c).map (· t))] = zfold how (fs.map (· t))
        rw [← zfold_app, ← List.map_append, List.take_append_drop]
        · intro q; have := congrArg List.length q; rw [List.length_map, List.length_take, List.length_nil] at this; omega
        · intro q; have := congrArg List.length q; rw [List.length_map, List.length_drop] at this; simp at this; omega
def partP (q : QQ) : Bool := decide (q.1 * 27720 = q.1 * (27720 / q.2) * q.2) && decide ((q.1 * (27720 / q.2)).natAbs ≤ 1663200)
set_option maxRecDepth 1000000 in
theorem partP_all : allSm partP = true := by decide +kernel
theorem small_val {q : QQ} (a : SmallQ q) : ValZ q (q.1 * (27720 / q.2)) ∧ (q.1 * (27720 / q.2)).natAbs ≤ 1663200 := by
  have := allSm_ok partP_all a
  unfold partP at this
  rw [Bool.and_eq_true, decide_eq_true_eq, decide_eq_true_eq] at this
  exact ⟨⟨right_iff.1 a.right, this.1⟩, this.2⟩
theorem smp_z {l : List SM} {st : List Int} {most : Nat} (a : Smp l st most) : ∃ f, SerZ (tmsG 0 (st.take most)) l f 1663200 := by
  have key : ∀ t : Int, ∃ z : Int, ∀ s ∈ l, s.t = t → ValZ s.q z ∧ z.natAbs ≤ 1663200 := fun t => by
    by_cases h : ∃ s ∈ l, s.t = t
    · obtain ⟨s, hs, e⟩ := h
      refine ⟨s.q.1 * (27720 / s.q.2), fun s' hs' e' => ?_⟩
      · have h1 := atF_own a.right hs
        have h2 := atF_own a.right hs'
        rw [e'] at h2
        rw [e, h2] at h1
        simp at h1
        rw [h1]
        exact small_val (a.small s hs)
    · exact ⟨0, fun s hs e => absurd ⟨s, hs, e⟩ h⟩
  obtain ⟨f, hf⟩ := Classical.axiomOfChoice key
  exact ⟨f, ⟨a.right, a.tm, fun s hs => hf s.t s hs rfl⟩⟩
end Am
end Go.Proofs.Ytkgplkddpigagaa
