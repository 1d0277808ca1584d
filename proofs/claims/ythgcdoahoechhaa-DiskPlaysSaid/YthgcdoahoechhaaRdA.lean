/- The document's disk (marigraphref3) in the plain machine: how it lies there. -/
import Derived.Test.YthgcdoahoechhaaMK
import Derived.Test.YthgcdoahoechhaaMD
set_option linter.unusedVariables false
set_option linter.unusedSimpArgs false
namespace Go.Proofs.Ythgcdoahoechhaa
namespace Am
open Go.RowKit
set_option maxRecDepth 100000
structure QF where
  name : List UInt8
  v : AV
  b : List UInt8
  sy : Nat
def QF.mf (q : QF) : MF := ⟨q.name, q.b, q.sy⟩
def QF.cells (q : QF) : List AV := [.str q.name, q.v, .int .i64 q.sy]
def diskC (m : MD) (v : AV) : List AV := [v, .int .i64 m.limit, .int .i64 m.armed, .bool m.down]
theorem qc_len (qs : List QF) : (qs.flatMap QF.cells).length = qs.length * 3 := by
  induction qs with
  | nil => rfl
  | cons q l ih => rw [List.flatMap_cons, List.length_append, ih, List.length_cons, Nat.succ_mul, Nat.add_comm]; rfl
theorem qc_at : ∀ {tri : List QF} {i : Nat} {q : QF} {j : Nat}, tri[i]? = some q → j < 3 → (tri.flatMap QF.cells)[i * 3 + j]? = (QF.cells q)[j]?
  | [], i, q, j, h, _ => by simp at h
  | p :: l, 0, q, j, h, hj => by
    simp at h; subst h
    rw [List.flatMap_cons, List.getElem?_append_left (by simp [QF.cells]; omega)]
    simp
  | p :: l, i + 1, q, j, h, hj => by
    simp at h
    rw [List.flatMap_cons, List.getElem?_append_right (by simp [QF.cells]; omega)]
    have e : (i + 1) * 3 + j - (QF.cells p).length = i * 3 + j := by simp [QF.cells]; omega
    rw [e]
    exact qc_at h hj
theorem qc_row : ∀ {tri : List QF} {i : Nat} {q : QF}, tri[i]? = some q → ((tri.flatMap QF.cells).drop (i * 3)).take 3 = QF.cells q
  | [], i, q, h => by simp at h
  | p :: l, 0, q, h => by
    simp at h; subst h
    rw [List.flatMap_cons, Nat.zero_mul, List.drop_zero]
    exact List.take_left (l₁ := QF.cells p)
  | p :: l, i + 1, q, h => by
    simp at h
    rw [List.flatMap_cons]
    have e : (i + 1) * 3 = (QF.cells p).length + i * 3 := by simp [QF.cells]; omega
    rw [e, ← List.drop_drop, List.drop_left]
    exact qc_row h
theorem qc_set : ∀ {tri : List QF} {i j : Nat} {q q' : QF} {u : AV}, tri[i]? = some q → j < 3 → q'.cells = q.cells.set j u → (tri.flatMap QF.cells).set (i * 3 + j) u = (tri.set i q').flatMap QF.cells
  | [], i, j, q, q', u, h, _, _ => by simp at h
  | p :: l, 0, j, q, q', u, h, hj, hc => by
    simp at h; subst h
    rw [List.flatMap_cons, List.set_cons_zero, List.flatMap_cons, hc, Nat.zero_mul, Nat.zero_add, List.set_append_left _ _ (by simp [QF.cells]; omega)]
  | p :: l, i + 1, j, q, q', u, h, hj, hc => by
    simp at h
    rw [List.flatMap_cons, List.set_cons_succ, List.flatMap_cons, List.set_append_right _ _ (by simp [QF.cells]; omega)]
    have e : (i + 1) * 3 + j - (QF.cells p).length = i * 3 + j := by simp [QF.cells]; omega
    rw [e, qc_set h hj hc]
section
variable {X : Type} {h h' : Hp X}
theorem RS.atQ {n : Nat} {v : AV} {tri : List QF} (a : RS h 3 v n (tri.flatMap QF.cells)) {i : Nat} {q : QF} (hi : tri[i]? = some q) : ∃ g o, (∀ {hh : Hp X} {e : En} {t : List AV} {x y : Od} {k : IntKind}, x.ev e t = v → y.ev e t = .int k (i : Int) → (Mv.iaddr 3 x y).ev e t hh = some (.ptr g o)) ∧
    (∀ {S : Nat → Prop} {hh : Hp X}, Keep S h hh → (∀ k, blk v k → ¬ S k) → ∀ {e : En} {t : List AV} {x : Od} {j : Nat}, x.ev e t = .ptr g (o + j) → j < 3 → (Mv.ld1 x).ev e t hh = (QF.cells q)[j]?) ∧
    (∀ {S : Nat → Prop} {hh : Hp X}, Keep S h hh → (∀ k, blk v k → ¬ S k) → ∀ {e : En} {t : List AV} {x : Od}, x.ev e t = .ptr g o → (Mv.ldn 3 x).ev e t hh = some (.agg (QF.cells q))) := by
  have hlen := a.len
  rw [qc_len] at hlen
  have hil := (List.getElem?_eq_some_iff.1 hi).1
  have hin : i < n := by omega
  cases v <;> first | exact a.elim | skip
  · rename_i z g o m cap
    obtain ⟨rfl, rfl, hg, l, hl, hle, hc⟩ := a
    refine ⟨g, o + i * 3, fun {hh e t x y k} hx hy => ?_, fun {S hh} hk hs {e t x j} hx hj => ?_, fun {S hh} hk hs {e t x} hx => ?_⟩
    · simp only [Mv.ev, hx, hy, nOf]
      rw [show Nat.blt i m = true by rw [Nat.blt_eq]; exact hin]
      rfl
    · simp only [Mv.ev, hx, AV.onPtr]
      rw [rowOf_get (hk.get g hg (hs g rfl)), hl]
      simp only
      have := qc_at hi hj
      rw [hc, List.getElem?_take_of_lt (by omega), List.getElem?_drop] at this
      rw [getN_ge, ← this, Nat.add_assoc]
    · simp only [Mv.ev, hx, AV.onPtr]
      rw [rowOf_get (hk.get g hg (hs g rfl)), hl]
      have := qc_row hi
      rw [hc, List.drop_take, List.take_take, List.drop_drop, Nat.min_eq_left (by omega)] at this
      unfold takeN
      have hb : (o + i * 3 + 3).ble l.length = true := ble_t (by omega)
      simp only [hb, cond_true, this]
  · obtain ⟨rfl, _⟩ := a; omega
  · obtain ⟨rfl, _⟩ := a; omega
structure LF (h : Hp X) (v : AV) (qs : List QF) (lo : Nat) : Prop where
  arr : OS h 3 v qs.length (qs.flatMap QF.cells)
  fro : ∀ k, blk v k → lo < k
  row : ∀ q ∈ qs, RS h 1 q.v q.b.length (q.b.map ub) ∧ ∀ k, blk q.v k → lo < k ∧ ¬ blk v k
theorem LF.nil {lo : Nat} : LF h .snil [] lo := ⟨⟨rfl, rfl⟩, fun k q => q.elim, fun q hq => by simp at hq⟩
theorem LF.keep {S : Nat → Prop} {v : AV} {qs : List QF} {lo : Nat} (a : LF h v qs lo) (k : Keep S h h') (hs : ∀ k, S k → k < h.n → k ≤ lo) : LF h' v qs lo :=
  ⟨a.arr.keep k (fun j hj q => by have := a.fro j hj; have := hs j q (a.arr.lt j hj); omega), a.fro, fun q hq => ⟨(a.row q hq).1.keep k (fun j hj q1 => by have := ((a.row q hq).2 j hj).1; have := hs j q1 ((a.row q hq).1.lt j hj); omega), (a.row q hq).2⟩⟩
theorem LF.up {v : AV} {qs : List QF} {lo : Nat} (a : LF h v qs lo) (k : Keep NoB h h') : LF h' v qs lo := a.keep k (fun _ q _ => q.elim)
theorem LF.next {v : AV} {qs : List QF} {lo : Nat} {q : QF} (a : LF h v qs lo) (hv : RS h 1 q.v q.b.length (q.b.map ub)) (hn : ∀ k, blk q.v k → lo < k ∧ ¬ blk v k) (hlo : lo < h.n) :
    OS (h.push (.rw q.cells)) 3 v qs.length (qs.flatMap QF.cells) ∧ RS (h.push (.rw q.cells)) 3 (.slice 3 h.n 0 1 (some 1)) 1 q.cells ∧ ∀ v' h', OS h' 3 v' (qs.length + 1) (qs.flatMap QF.cells ++ q.cells) → Keep (blk v) (h.push (.rw q.cells)) h' → (∀ g, blk v' g → blk v g ∨ (h.push (.rw q.cells)).n ≤ g) → LF h' v' (qs ++ [q]) lo ∧ Keep (blk v) h h' := by
  have kp : Keep NoB h (h.push (.rw q.cells)) := Keep.push _ _ _
  refine ⟨a.arr.up kp, rs_push (n := 1) (z := 3) rfl, fun v' h' a1 a2 a3 => ⟨⟨?_, ?_, ?_⟩, kp.any.trans a2 (fun _ _ q => q)⟩⟩
  · rw [List.length_append, List.flatMap_append]
    simpa using a1
  · intro k hk
    rcases a3 k hk with hk | hk
    · exact a.fro k hk
    · simp only [push_n] at hk; omega
  · intro r hr
    have hx : RS h 1 r.v r.b.length (r.b.map ub) ∧ ∀ k, blk r.v k → lo < k ∧ ¬ blk v k := by
      rcases List.mem_append.1 hr with hr | hr
      · exact a.row r hr
      · simp at hr
        subst hr
        exact ⟨hv, hn⟩
    refine ⟨(hx.1.up kp).keep a2 (fun k hk => (hx.2 k hk).2), fun k hk => ⟨(hx.2 k hk).1, fun q6 => ?_⟩⟩
    have hlt := hx.1.lt k hk
    rcases a3 k q6 with q | q
    · exact (hx.2 k hk).2 q
    · simp only [push_n] at q; omega
theorem LF.set {v u : AV} {qs : List QF} {lo i j : Nat} {q q' : QF} (a : LF h v qs lo) (hi : qs[i]? = some q) (hj : j < 3) (hc : q'.cells = q.cells.set j u) (hv : RS h 1 q'.v q'.b.length (q'.b.map ub)) (hn : ∀ k, blk q'.v k → lo < k ∧ ¬ blk v k) :
    ∃ g o lc, (∀ {hh : Hp X} {e : En} {t : List AV} {x y : Od} {kk : IntKind}, x.ev e t = v → y.ev e t = .int kk (i : Int) → (Mv.iaddr 3 x y).ev e t hh = some (.ptr g o)) ∧
    Bx h g lc ∧ o + j < lc.length ∧ LF (h.put g (.rw (spl (o + j) [u] lc))) v (qs.set i q') lo ∧ blk v g ∧ lo < g := by
  have hil := (List.getElem?_eq_some_iff.1 hi).1
  have hao := a.arr
  have hset := qc_set hi hj hc
  have hll := qc_len qs
  cases v <;> first | exact hao.elim | skip
  · rename_i z g o m cap
    obtain ⟨rfl, rfl, hz, hg, l, hl, hle, hcl, hcap⟩ := hao
    have kg : Keep (OneB g) h (h.put g (.rw (spl (o + i * 3 + j) [u] l))) := Keep.put _ _ _ rfl
    refine ⟨g, o + i * 3, l, fun {hh e t x y kk} hx hy => ?_, ⟨hg, hl⟩, by omega, ⟨?_, a.fro, fun r hr => ?_⟩, rfl, a.fro g rfl⟩
    · simp only [Mv.ev, hx, hy, nOf]
      rw [show Nat.blt i qs.length = true by rw [Nat.blt_eq]; exact hil]
      rfl
    · rw [List.length_set]
      refine ⟨rfl, rfl, hz, hg, _, Hp.put_self _ _ _, ?_, ?_, ?_⟩
      · rw [spl_one (by omega), List.length_set]; exact hle
      · rw [spl_one (by omega), ← hset, hcl, List.drop_set, if_neg (by omega), List.take_set]
        congr 1
        omega
      · rw [spl_one (by omega), List.length_set]; exact hcap
    · rcases List.mem_or_eq_of_mem_set hr with hr | rfl
      · exact ⟨(a.row r hr).1.keep kg (fun k q1 q2 => ((a.row r hr).2 k q1).2 q2), (a.row r hr).2⟩
      · exact ⟨hv.keep kg (fun k q1 q2 => (hn k q1).2 q2), hn⟩
  · obtain ⟨h0, _⟩ := hao; omega
end
structure RD (h : Hp MD) (r : Nat) (m : MD) : Prop where
  out : ∃ v qs, Bx h r (diskC m v) ∧ LF h v qs r ∧ (qs.map QF.mf).Perm m.fs
  ok : m.Ok
theorem RD.keep {S : Nat → Prop} {h h' : Hp MD} {r : Nat} {m : MD} (a : RD h r m) (k : Keep S h h') (hs : ∀ k, S k → k < h.n → k < r) : RD h' r m := by
  obtain ⟨v, qs, h1, h2, h3⟩ := a.out
  exact ⟨⟨v, qs, h1.keep k (fun q => by have := hs r q h1.lt; omega), h2.keep k (fun j q1 q2 => Nat.le_of_lt (hs j q1 q2)), h3⟩, a.ok⟩
theorem RD.up {h h' : Hp MD} {r : Nat} {m : MD} (a : RD h r m) (k : Keep NoB h h') : RD h' r m := a.keep k (fun _ q _ => q.elim)
theorem RD.lt {h : Hp MD} {r : Nat} {m : MD} (a : RD h r m) : r < h.n := by obtain ⟨_, _, h1, _⟩ := a.out; exact h1.lt
section
variable {qs : List QF} {m : MD}
theorem q_len (hp : (qs.map QF.mf).Perm m.fs) : qs.length = m.fs.length := by rw [← List.length_map (f := QF.mf), hp.length_eq]
theorem q_nodup (hp : (qs.map QF.mf).Perm m.fs) (ok : m.Ok) : (qs.map QF.name).Nodup := by
  have h1 : (m.fs.map MF.name).Nodup := by
    rw [List.Nodup, List.pairwise_map]
    exact ok.rising.imp fun h => bl_ne h
  rw [show qs.map QF.name = (qs.map QF.mf).map MF.name from by rw [List.map_map]; rfl]
  exact ((hp.map MF.name).nodup_iff).2 h1
theorem q_none (hp : (qs.map QF.mf).Perm m.fs) {s : Bs} (hn : ∀ q ∈ qs, q.name ≠ s) : m.get s = none := by
  unfold MD.get
  rw [get_none]
  intro x hx
  obtain ⟨q, hq, rfl⟩ := List.mem_map.1 (hp.mem_iff.2 hx)
  exact hn q hq
theorem q_some (hp : (qs.map QF.mf).Perm m.fs) (ok : m.Ok) {i : Nat} {q : QF} (hi : qs[i]? = some q) : m.get q.name = some q.mf := by
  unfold MD.get
  exact ok.rising.get_of_mem (x := q.mf) (hp.mem_iff.1 (List.mem_map_of_mem (List.mem_of_getElem? hi)))
theorem q_used (hp : (qs.map QF.mf).Perm m.fs) : (qs.map fun q => q.b.length).sum = m.used := by
  unfold MD.used
  rw [← (hp.map fun f => f.b.length).sum_nat, List.map_map]
  rfl
theorem q_drop (hp : (qs.map QF.mf).Perm m.fs) (s : Bs) : ((qs.filter fun q => q.name != s).map QF.mf).Perm (dropL MF.name m.fs s) := by
  have h := hp.filter (fun f => f.name != s)
  rw [List.filter_map] at h
  exact h
theorem q_put (hp : (qs.map QF.mf).Perm m.fs) {q : QF} (s : Bs) (hs : s = q.name) : (((qs.filter fun q => q.name != s) ++ [q]).map QF.mf).Perm (putL MF.name m.fs q.mf) := by
  subst hs
  rw [List.map_append]
  exact (List.perm_append_comm.trans (List.Perm.cons _ (q_drop hp _))).trans (perm_put MF.name m.fs q.mf).symm
theorem q_set (hp : (qs.map QF.mf).Perm m.fs) (ok : m.Ok) {k : Nat} {q q' : QF} (hk : qs[k]? = some q) (G : MF → MF) (hG : G q.mf = q'.mf) : ((qs.set k q').map QF.mf).Perm (setL MF.name m.fs q.name G) := by
  have hn := q_nodup hp ok
  obtain ⟨hkl, hkq⟩ := List.getElem?_eq_some_iff.1 hk
  have e : (qs.set k q').map QF.mf = setL MF.name (qs.map QF.mf) q.name G := by
    apply List.ext_getElem?
    intro i
    unfold setL
    rw [List.map_map, List.getElem?_map, List.getElem?_map]
    by_cases h : i = k
    · subst h
      rw [List.getElem?_set_self hkl, hk]
      simp only [Option.map_some, Function.comp]
      rw [if_pos (by rfl), hG]
    · rw [List.getElem?_set_ne (fun e => h e.symm)]
      rcases Nat.lt_or_ge i qs.length with hi | hi
      · rw [List.getElem?_eq_getElem hi]
        simp only [Option.map_some, Function.comp]
        rw [if_neg]
        intro e
        have h1 : qs[i].name = qs[k].name := by rw [hkq]; exact e
        have hne : ∀ (a b : Nat) (ha : a < qs.length) (hb : b < qs.length), a < b → qs[a].name ≠ qs[b].name := fun a b ha hb hab => by
          have := List.pairwise_iff_getElem.1 hn a b (by simpa using ha) (by simpa using hb) hab
          simpa using this
        rcases Nat.lt_or_gt_of_ne h with h2 | h2
        · exact hne i k hi hkl h2 h1
        · exact hne k i hkl hi h2 h1.symm
      · rw [List.getElem?_eq_none hi]; rfl
  rw [e]
  exact hp.map _
end
end Am
end Go.Proofs.Ythgcdoahoechhaa
