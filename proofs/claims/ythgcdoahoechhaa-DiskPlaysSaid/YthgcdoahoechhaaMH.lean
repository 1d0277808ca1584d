/- Slices that are cut; package octet's Get, chapter 2's Get. A law's row out of its walk: the law answers true, and nothing that lay there has turned. Opening an argument that is a list of lists: its cells as they are read. The plain machine: a law with arguments: what it reads lies there; then it runs. The plain machine: two disks alike. The disk in plain Lean while power stays: what each call does to names, bytes and room. No program. The plain machine: helpers for walks: what is kept, boxes, calls of the disk. -/
import Derived.Test.YthgcdoahoechhaaMG
import Derived.Test.YthgcdoahoechhaaMA
import Derived.ProofKit
import Derived.OpenShut
import Derived.WideKeyArgs
import Derived.ChangeSlices
import Derived.SliceStrings
import Derived.Deep.Slices
import Derived.Deep.Fields
import Derived.Test.YthgcdoahoechhaaMF
import Derived.Test.YthgcdoahoechhaaMC
import Derived.Test.YthgcdoahoechhaaMD
set_option linter.unusedVariables false
set_option linter.unusedSimpArgs false
namespace Go.Proofs.Ythgcdoahoechhaa
namespace Am
open Go.RowKit
set_option maxRecDepth 100000
section
variable {X : Type} {E : Nat → Option (Ent X)}
def Bnd (o : Option Od) (e : En) (t : List AV) (n : Nat) (d : Nat) : Prop := (o = none ∧ n = d) ∨ ∃ x k, o = some x ∧ x.ev e t = .int k (n : Int)
theorem nOf_nat {k : IntKind} {n : Nat} : nOf (.int k (n : Int)) = some n := rfl
theorem RS.sl {h : Hp X} {z n : Nat} {v : AV} {cells : List AV} (a : RS h z v n cells) {lo hi : Nat} (h1 : lo ≤ hi) (h2 : hi ≤ n) : ∃ v', RS h z v' (hi - lo) ((cells.drop (lo * z)).take ((hi - lo) * z)) ∧ (∀ g, blk v' g → blk v g) ∧ (v ≠ .semp → v' ≠ .semp) ∧
    ∀ {hh : Hp X} {e : En} {t : List AV} {x : Od} {ol oh : Option Od}, x.ev e t = v → Bnd ol e t lo 0 → Bnd oh e t hi n → (Mv.sl z x ol oh none).ev e t hh = some v' := by
  cases v <;> first | exact a.elim | skip
  · rename_i z' g o n' cap
    obtain ⟨rfl, rfl, hg, l, hl, hle, rfl⟩ := a
    refine ⟨.slice z' g (o + lo * z') (hi - lo) (match cap with | none => none | some k => some (k - lo)), ⟨rfl, rfl, hg, l, hl, ?_, ?_⟩, fun g hg => hg, (fun _ e => by cases e), fun {hh e t x ol oh} hx hol hoh => ?_⟩
    · have e1 : lo * z' + (hi - lo) * z' = hi * z' := by rw [← Nat.add_mul]; congr 1; omega
      have := Nat.mul_le_mul_right z' h2
      omega
    · have e1 : lo * z' + (hi - lo) * z' = hi * z' := by rw [← Nat.add_mul]; congr 1; omega
      have := Nat.mul_le_mul_right z' h2
      rw [List.drop_take, List.take_take, List.drop_drop]
      congr 1
      omega
    · have hc : capB hh z' g o n' cap hi = true := by unfold capB; rw [ble_t h2]; rfl
      have hl2 := ble_t h1
      simp only [Mv.ev, hx, slB, Nat.beq_refl, Bool.not_true, cond_false]
      rcases hol with ⟨rfl, rfl⟩ | ⟨y, k, rfl, hy⟩ <;> rcases hoh with ⟨rfl, rfl⟩ | ⟨y2, k2, rfl, hy2⟩
      · simp only [oev]; cases cap <;> rfl
      · simp only [oev, hy2, nOf_nat, hc, cond_true]; cases cap <;> rfl
      · simp only [oev, hy, nOf_nat, hl2, cond_true]; cases cap <;> rfl
      · simp only [oev, hy, hy2, nOf_nat, hc, hl2, cond_true]; cases cap <;> rfl
  · obtain ⟨rfl, rfl⟩ := a
    have e1 : hi = 0 := by omega
    subst e1
    have e2 : lo = 0 := by omega
    subst e2
    refine ⟨.snil, ⟨rfl, by simp⟩, fun g hg => hg, (fun _ e => by cases e), fun {hh e t x ol oh} hx hol hoh => ?_⟩
    simp only [Mv.ev, hx, slB]
    rcases hol with ⟨rfl, _⟩ | ⟨y, k, rfl, hy⟩ <;> rcases hoh with ⟨rfl, _⟩ | ⟨y2, k2, rfl, hy2⟩ <;> simp only [oev, *] <;> rfl
  · obtain ⟨rfl, rfl⟩ := a
    have e1 : hi = 0 := by omega
    subst e1
    have e2 : lo = 0 := by omega
    subst e2
    refine ⟨.semp, ⟨rfl, by simp⟩, fun g hg => hg, fun h => absurd rfl h, fun {hh e t x ol oh} hx hol hoh => ?_⟩
    simp only [Mv.ev, hx, slB]
    rcases hol with ⟨rfl, _⟩ | ⟨y, k, rfl, hy⟩ <;> rcases hoh with ⟨rfl, _⟩ | ⟨y2, k2, rfl, hy2⟩ <;> simp only [oev, *] <;> rfl
def ub (b : UInt8) : AV := .int .u8 b.toNat
def be (l : List UInt8) : Nat := l.foldl (fun n b => n * 256 + b.toNat) 0
end
end Am
end Go.Proofs.Ythgcdoahoechhaa
namespace Go.Proofs.Ythgcdoahoechhaa
open Go.ChangeShapes Go.WideShapes Go.ChangeAt Go.RowKit
section
variable {H : Type} {enc : TypeId × Value → H} {P : Program}
theorem trodAll_below (hl : laidOutB P = true) {W W' : World} (hb : Below W.heap.size W W') (sp : Nat → Bool) : ∀ {ts : List TypeId} {vs : List Value} {ds : List (DataW H)} {ps : List MemPlace},
    (∀ t ∈ ts, P.readableRec t = true ∧ t < P.types.size) → DataW.TrodAll enc P W 0 (fun _ => true) true ts vs ds ps → (∀ p ∈ ps, p.block < W.heap.size) → (∀ p ∈ ps, sp p.block = true) → DataW.TrodAll enc P W' 0 sp true ts vs ds ps
  | [], vs, ds, ps, _, h, _, _ => by
    obtain ⟨rfl, rfl, rfl⟩ := trodAll_nil h
    exact trodAll_mk0
  | t :: ts, vs, ds, ps, hr, h, hlt, hsp => by
    obtain ⟨v, vs', d, ds', p, q, rfl, rfl, rfl, h1, h2⟩ := trodAll_cons h
    refine trodAll_cons_mk (WideElems.Trod_stays hl (hr t (List.mem_cons_self ..)).1 (hr t (List.mem_cons_self ..)).2 h1 (fun x hx => hb.same (hlt x (List.mem_append_left _ hx))) (fun x hx => hsp x (List.mem_append_left _ hx))) ?_
    exact trodAll_below hl hb sp (fun t ht => hr t (List.mem_cons_of_mem _ ht)) h2 (fun x hx => hlt x (List.mem_append_right _ hx)) (fun x hx => hsp x (List.mem_append_right _ hx))
theorem law_post {f : Func} {s : ChangeSpec} {apart fresh handsOn again : Bool} {W W' : World} {args : Array Value} {ds gs : List (DataW H)} {before : List MemPlace} {tb : TypeId}
    (hl : laidOutB P = true) (hr : ∀ t ∈ f.params.toList, P.readableRec t = true ∧ t < P.types.size) (hv : s.vars = []) (hf : f.resultTypes = #[tb]) (ht : P.underlying tb = some .bool)
    (hs : s.fn H (ds ++ gs) = { results := [.lit (.bool true)], args := ds })
    (hW : DataW.Whole enc P f.params.toList s.vars apart W args.toList ds gs before) (hb : Below W.heap.size W W') : s.post enc P f apart fresh handsOn again W args (.bool true) W' := by
  have hold : ∀ p ∈ before, (fun b => decide (b < W.heap.size)) p.block = true := fun p hp => by simpa using hW.lt p hp
  have hlt : ∀ p ∈ before, p.block < W.heap.size := fun p hp => by simpa using hW.lt p hp
  have hW0 := hW
  obtain ⟨p, q, hA, hV, hpq, hz, hn⟩ := hW0
  have hv' := hv
  rw [hv] at hV
  obtain ⟨rfl, rfl⟩ := trodVars_none hV
  rw [List.append_nil] at hpq
  subst hpq
  have hres : ∀ (b : Nat) (sp : Nat → Bool) (hd : Bool), DataW.TrodAll enc P W' b sp hd f.resultTypes.toList ((Value.bool true).resultList f.resultTypes.size) (s.fn H (ds ++ [])).results [] := fun b sp hd => by
    rw [hs, hf]; exact trodAll_mk1 (shut_bool ht true)
  have hargs : ∀ sp : Nat → Bool, (∀ p ∈ before, sp p.block = true) → DataW.TrodAll enc P W' 0 sp true f.params.toList args.toList (s.fn H (ds ++ [])).args before := fun sp hsp => by
    rw [hs]; exact trodAll_below hl hb sp hr hA hlt hsp
  have hvars : ∀ sp : Nat → Bool, DataW.TrodVars enc P W' sp s.vars (s.fn H (ds ++ [])).vars [] := fun sp => by
    rw [hs, hv]; exact rfl
  refine ⟨ds, [], before, [], before, [], hW, hres _ _ _, hargs _ hold, hvars _, hb.frame _, fun _ => ?_⟩
  refine ⟨ok_one hf rfl (okWide_bool_mk ht _), _, _, ([] ++ before) ++ [], ⟨[] ++ before, [], trodAll_append (hargs _ (fun _ _ => rfl)) (hres _ _ _), hvars _, rfl, ?_, ?_⟩, ?_⟩
  · intro b off hp
    have hp' : MemPlace.cell b off ∈ before := by simpa using hp
    rw [hb.frozen (p := ⟨b, off, none⟩) (hlt _ hp')]
    exact hz b off hp'
  · intro ha
    simpa using hn ha
  · intro p hp _
    simpa using hp
end
theorem open_nums {H : Type} {enc : TypeId × Value → H} {P : Program} {W : World} {t e : TypeId} {k : IntKind} (ht : P.underlying t = some (.slice e)) (he : P.underlying e = some (.int k)) (hc : P.cellsOf e = 1) {v : Value} {d : DataW H} {ps : List MemPlace}
    (hok : ∃ a len cap, v = .slice a len cap) (h : DataW.Trod enc P W 0 (fun _ => true) true t v d ps) :
    ∃ (a : Option Addr) (n c : Nat) (zs : List Int), v = .slice a n c ∧ zs.length = n ∧ Rd W 1 (.slice a n c) n (zs.map (Value.int k)) ∧ (∀ z ∈ zs, (Lit.int k z).wf = true) ∧ (∀ ad, a = some ad → 0 < c → ad.block < W.heap.size) := by
  obtain ⟨a0, len, cap, rfl⟩ := hok
  obtain ⟨fuel, hf⟩ := h
  rcases open_ints ht he hc hf with ⟨hcs, _⟩ | ⟨a, len', cap', zs, hcs, _, hl, hm, hz, _, hcell, hw⟩
  · simp [Value.cells] at hcs
    obtain ⟨rfl, rfl, rfl⟩ := hcs
    exact ⟨none, 0, 0, [], rfl, rfl, ⟨rfl, by unfold maxLen; omega, none, 0, rfl, Nat.le_refl _, by unfold maxLen; omega, (fun _ => ⟨rfl, rfl⟩), (fun _ h => by cases h)⟩, (fun _ h => by cases h), (fun _ h => by cases h)⟩
  · simp [Value.cells] at hcs
    obtain ⟨rfl, rfl, rfl⟩ := hcs
    simp only [if_true] at hz
    have hsp : 0 < zs.length → a.spot = none := fun h0 => by
      have := hcell 0 h0
      have h1 : a.add 0 = a := by simp [Addr.add]
      rw [h1] at this
      exact World.cell?_spot this
    refine ⟨some a, len, cap, zs.take len, rfl, by simp; omega, ⟨by simp; omega, by omega, some a, cap, rfl, hl, hm, (fun h => by cases h), fun ad had => ?_⟩, fun z hz' => hw z (List.mem_of_mem_take hz'), fun ad had h0 => ?_⟩
    · cases had
      refine ⟨fun h0 => hsp (by omega), fun j u hu => ?_⟩
      rw [List.getElem?_map] at hu
      obtain ⟨z, hz', rfl⟩ := Option.map_eq_some_iff.1 hu
      rw [List.getElem?_take] at hz'
      split at hz'
      · have hj := (List.getElem?_eq_some_iff.1 hz').1
        rw [hcell j hj, List.getD_eq_getElem?_getD, hz']; rfl
      · cases hz'
    · cases had
      have := hcell 0 (by omega)
      have h1 : a.add 0 = a := by simp [Addr.add]
      rw [h1] at this
      exact World.block_lt_of_cell? W a this
theorem bytes_of {zs : List Int} (h : ∀ z ∈ zs, (Lit.int .u8 z).wf = true) : ∃ l : Bs, zs.map (Value.int .u8) = l.map bv := by
  refine ⟨zs.map fun z => UInt8.ofNat z.toNat, ?_⟩
  rw [List.map_map]
  refine List.map_congr_left fun z hz => ?_
  have := h z hz
  simp [Lit.wf, IntKind.min, IntKind.max, IntKind.bits, IntKind.signed] at this
  simp [bv, UInt8.toNat_ofNat']
  omega
theorem open_bytes {H : Type} {enc : TypeId × Value → H} {P : Program} {W : World} {t e : TypeId} (ht : P.underlying t = some (.slice e)) (he : P.underlying e = some (.int .u8)) (hc : P.cellsOf e = 1) {v : Value} {d : DataW H} {ps : List MemPlace}
    (hok : ∃ a len cap, v = .slice a len cap) (h : DataW.Trod enc P W 0 (fun _ => true) true t v d ps) :
    ∃ (a : Option Addr) (l : Bs) (c : Nat), v = .slice a l.length c ∧ Rd W 1 (.slice a l.length c) l.length (l.map bv) := by
  obtain ⟨a, n, c, zs, hv, hl, hr, hw, _⟩ := open_nums ht he hc hok h
  obtain ⟨l, e⟩ := bytes_of hw
  have : l.length = n := by
    have := congrArg List.length e
    simpa [hl] using this.symm
  rw [e, ← this] at hr
  exact ⟨a, l, c, by rw [hv, this], hr⟩
theorem i64_of {n : Int} (h : (Lit.int .i64 n).wf = true) : -9223372036854775808 ≤ n ∧ n ≤ 9223372036854775807 := by
  simp [Lit.wf, IntKind.min, IntKind.max, IntKind.signed, IntKind.bits] at h
  omega
end Go.Proofs.Ythgcdoahoechhaa
namespace Go.Proofs.Ythgcdoahoechhaa
open Go.ChangeShapes Go.WideShapes Go.ChangeAt Go.RowKit Go.Deep
theorem list_of {α β : Type} {f : β → α} {q : β → Prop} : ∀ {xs : List α}, (∀ x ∈ xs, ∃ y, x = f y ∧ q y) → ∃ ys : List β, xs = ys.map f ∧ ∀ y ∈ ys, q y
  | [], _ => ⟨[], rfl, fun _ h => by cases h⟩
  | x :: xs, h => by
    obtain ⟨y, h1, h2⟩ := h x (List.mem_cons_self ..)
    obtain ⟨ys, h3, h4⟩ := list_of (xs := xs) fun z hz => h z (List.mem_cons_of_mem _ hz)
    refine ⟨y :: ys, by rw [h1, h3]; rfl, fun z hz => ?_⟩
    rcases List.mem_cons.1 hz with rfl | hz
    · exact h2
    · exact h4 z hz
section
variable {H : Type} {enc : TypeId × Value → H} {P : Program} {W : World}
theorem shape_of {t e : TypeId} {fuel : Nat} {v : Value} {x : DataW H × List MemPlace} (ht : P.underlying t = some (.slice e)) (h : DataW.trod enc P W 0 (fun _ => true) true fuel t [v] = some x) : ∃ a len cap, v = .slice a len cap := by
  rcases open_slice ht h with ⟨h0, _⟩ | ⟨a, len, cap, m, n, D, Pl, h0, _⟩
  · exact ⟨none, 0, 0, by simpa using h0⟩
  · exact ⟨some a, len, cap, by simpa using h0⟩
abbrev Row3 := Option Addr × Bs × Nat
def rowV (r : Row3) : Value := .slice r.1 r.2.1.length r.2.2
def RowIn (w : World) (r : Row3) : Prop := Rd w 1 (rowV r) r.2.1.length (r.2.1.map bv)
theorem flatten_at {α : Type} {z : Nat} (hz : 0 < z) : ∀ {vs : List (List α)}, (∀ c ∈ vs, c.length = z) → ∀ j, vs.flatten[j]? = (vs[j / z]?).bind fun c => c[j % z]?
  | [], _, j => by simp
  | c :: vs, h, j => by
    have hc := h c (List.mem_cons_self ..)
    rw [List.flatten_cons]
    by_cases hj : j < z
    · rw [List.getElem?_append_left (by omega), Nat.div_eq_of_lt hj, Nat.mod_eq_of_lt hj]; rfl
    · rw [List.getElem?_append_right (by omega), hc, flatten_at hz (fun x hx => h x (List.mem_cons_of_mem _ hx))]
      have e1 : j / z = (j - z) / z + 1 := by
        conv => lhs; rw [show j = (j - z) + z by omega]
        rw [Nat.add_div_right _ hz]
      have e2 : j % z = (j - z) % z := by
        conv => lhs; rw [show j = (j - z) + z by omega]
        rw [Nat.add_mod_right]
      rw [e1, e2]; rfl
theorem open_structs {t e : TypeId} {fs : Array Field} (ht : P.underlying t = some (.slice e)) (hs : P.underlying e = some (.struct fs)) (hone : oneCellFields P fs = true) (hC : P.cellsOf e = fs.size) (hpos : 0 < fs.size) {v : Value} {d : DataW H} {ps : List MemPlace}
    (hok : ∃ a len cap, v = .slice a len cap) (h : DataW.Trod enc P W 0 (fun _ => true) true t v d ps) :
    ∃ (a : Option Addr) (vs : List (List Value)) (c : Nat), v = .slice a vs.length c ∧ Rd W fs.size (.slice a vs.length c) vs.length vs.flatten ∧
      ∀ cs ∈ vs, cs.length = fs.size ∧ ∀ (i : Nat) (f : Field), fs[i]? = some f → ∃ (n : Nat) (x : DataW H × List MemPlace), DataW.trod enc P W 0 (fun _ => true) true n f.type [cs.getD i undef] = some x := by
  obtain ⟨a0, len, cap, rfl⟩ := hok
  obtain ⟨fuel, hf⟩ := h
  rcases open_slice ht hf with ⟨hcs, _⟩ | ⟨a, len', cap', m, n, D, Pl, hcs, _, hl, hm, hmm, _, hx⟩
  · simp [Value.cells] at hcs
    obtain ⟨rfl, rfl, rfl⟩ := hcs
    exact ⟨none, [], 0, rfl, ⟨by simp, by unfold maxLen; simp, none, 0, rfl, Nat.le_refl _, by unfold maxLen; simp, (fun _ => ⟨rfl, rfl⟩), (fun _ h => by cases h)⟩, fun _ h => by cases h⟩
  · simp [Value.cells] at hcs
    obtain ⟨rfl, rfl, rfl⟩ := hcs
    have hlm : len ≤ m := by rw [hmm]; split <;> omega
    rw [hC] at hx
    obtain ⟨V, hV⟩ := choose_lt (α := List Value) (p := fun i cs => W.cells? 0 (a.add (i * fs.size)) fs.size = some cs ∧ DataW.trod enc P W 0 (fun _ => true) true n e cs = some (D i, Pl i)) (n := m) (fun i hi => hx i hi)
    have hlen : ∀ cs ∈ (List.range len).map V, cs.length = fs.size := by
      intro cs hcs
      obtain ⟨i, hi, rfl⟩ := List.mem_map.1 hcs
      exact (World.cells?_some (hV i (by have := List.mem_range.1 hi; omega)).1).2.1
    have hsp : 0 < len → a.spot = none := fun h0 => by
      obtain ⟨_, hl0, hc0⟩ := World.cells?_some (hV 0 (by omega)).1
      have := hc0 0 hpos
      rw [List.getElem?_eq_getElem (by omega)] at this
      have e0 : (a.add (0 * fs.size)).add 0 = a := by simp [Addr.add]
      rw [e0] at this
      exact World.cell?_spot this
    refine ⟨some a, (List.range len).map V, cap, by simp, ⟨?_, by simp; omega, some a, cap, rfl, by simpa using hl, hm, (fun h => by cases h), fun ad had => ?_⟩, fun cs hcs => ⟨hlen cs hcs, fun i f hif => ?_⟩⟩
    · rw [List.length_flatten]
      have : ∀ l : List (List Value), (∀ c ∈ l, c.length = fs.size) → (l.map List.length).sum = l.length * fs.size := by
        intro l
        induction l with
        | nil => intro _; simp
        | cons c l ih =>
          intro hh
          rw [List.map_cons, List.sum_cons, ih (fun x hx => hh x (List.mem_cons_of_mem _ hx)), hh c (List.mem_cons_self ..), List.length_cons, Nat.succ_mul]
          omega
      exact this _ hlen
    · cases had
      refine ⟨fun h0 => hsp (by simpa using h0), fun j u hu => ?_⟩
      rw [flatten_at hpos hlen] at hu
      obtain ⟨cs, h1, h2⟩ := Option.bind_eq_some_iff.1 hu
      rw [List.getElem?_map] at h1
      obtain ⟨i, hi, rfl⟩ := Option.map_eq_some_iff.1 h1
      obtain ⟨hj, rfl⟩ := List.getElem?_eq_some_iff.1 hi
      simp at hj h2
      obtain ⟨_, hl0, hc0⟩ := World.cells?_some (hV (j / fs.size) (by omega)).1
      have hmod : j % fs.size < fs.size := Nat.mod_lt _ hpos
      have := hc0 (j % fs.size) hmod
      rw [h2, add_add] at this
      rw [← this]
      congr 2
      rw [Nat.mul_comm]
      exact (Nat.div_add_mod j fs.size).symm
    · obtain ⟨k, hk, rfl⟩ := List.mem_map.1 hcs
      have hk := List.mem_range.1 hk
      obtain ⟨h1, h2⟩ := hV k (by omega)
      obtain ⟨xs, n', _, _, _, hxl, hfd⟩ := DataW.trod_struct hs h2
      have hlt : i < fs.size := (Array.getElem?_eq_some_iff.1 hif).1
      obtain ⟨ho, hc1⟩ := hone_of hone i f hif
      have g := hfd i f hif
      rw [ho, hc1] at g
      have hll : (V k).length = fs.size := hlen _ hcs
      rw [take1_drop (V k) i undef (by omega), List.getElem?_eq_getElem (by omega)] at g
      exact ⟨n', _, g⟩
end
end Go.Proofs.Ythgcdoahoechhaa
namespace Go.Proofs.Ythgcdoahoechhaa
namespace Am
open Go.RowKit
set_option maxRecDepth 10000
variable {P : Program}
theorem law_run {O : Objs} {E : Nat → Option (Ent O.X)} (hF : ∀ f e, E f = some e → ∀ N, FnOK P O f (entF N e)) {f : Nat} {xs : List AV} {args : List Value} {W : World} {m : Mu} {φ : Ph} {h : Hp O.X} (hs : SR O W W m φ h) (hv : VRs m xs args)
    (H : WF (lim E) f xs h fun r _ => r = .bool true) : Calls P f args.toArray W fun e W' => e = .returned (.bool true) ∧ Below W.heap.size W W' := by
  obtain ⟨v, h', e, rfl⟩ := H.out
  have hc := (lim_ds hF f xs h (by rw [e]; intro q; cases q)).2 hs hv
  rw [e] at hc
  refine hc.mono fun en w' hq => ?_
  obtain ⟨m', φ', v', k1, k2, k3, k4, rfl⟩ := hq
  simp only [VR] at k4
  subst k4
  exact ⟨rfl, k3.below⟩
noncomputable def n_true {X : Type} : Fn X := fun _ args h => match args with | [] => .ret (.bool true) h | _ => .bad
theorem true_n {O : Objs} {f : Nat} (hc : callable P f = true) (H : ∀ W : World, Calls P f #[] W fun e W' => e = .returned (.bool true) ∧ Below W.heap.size W W') : FnOK P O f n_true := by
  refine ⟨hc, fun {D} hD args h hb {w0 w m φ args'} hs hv => ?_⟩
  cases args with
  | cons a l => exact absurd rfl hb
  | nil =>
    simp only [VRs] at hv
    subst hv
    refine (H w).mono fun e w' ⟨he, hw⟩ => ?_
    subst he
    exact ⟨m, φ, .bool true, fun _ _ => rfl, Nat.le_refl _, hs.grow hw, by simp [VR], rfl⟩
theorem wf_true {X : Type} {E : Nat → Option (Ent X)} (hE : ∀ f e, E f = some e → e.plain) {f : Nat} (hf : E f = some (.nat n_true)) {h : Hp X} : WF (lim E) f [] h fun r h' => h' = h ∧ r = .bool true :=
  ⟨⟨_, _, lim_nat hE hf (D := lim E) (a := []) (h := h) (by intro q; cases q), rfl, rfl⟩⟩
structure Ini (O : Objs) (W : World) (m : Mu) (h : Hp O.X) : Prop where
  sr : ∃ φ, SR O W W m φ h
theorem ini0 (O : Objs) (W : World) : Ini O W (fun _ => none) h0 := ⟨⟨_, sr_h0 O W⟩⟩
section
variable {O : Objs} {W : World} {m : Mu} {h : Hp O.X}
theorem Ini.ro (H : Ini O W m h) {p : Pl} {l : List AV} (hb : p.b < W.heap.size) (hl : p.s + l.length ≤ p.e) (hr : RowR m l (fun i => W.cell? ⟨p.b, p.s + i, none⟩)) : Ini O W (m.set h.n p) (h.push (.ro l)) ∧ Ext m (m.set h.n p) := by
  obtain ⟨φ, H⟩ := H.sr
  have hx := Mu.ext_set H.none_n p
  exact ⟨⟨⟨φ.set h.n (fun _ => False), H.new (Below.refl _ _) ⟨hb, hl, hr.ext hx⟩ (fun q => by cases q)⟩⟩, hx⟩
theorem vrs_row {m : Mu} {l : List AV} {vs : List Value} {f : Nat → Option Value} (hv : VRs m l vs) (ho : ∀ x ∈ l, x.one = true) (hf : ∀ j u, vs[j]? = some u → f j = some u) : RowR m l f := fun i v hi => by
  obtain ⟨u, h1, h2⟩ := hv.get hi
  exact ⟨u, hf i u h1, h2, ho v (List.mem_of_getElem? hi)⟩
theorem Ini.slice (H : Ini O W m h) {z : Nat} {a : Option Addr} {n c : Nat} {vs : List Value} {l : List AV} (hz : 0 < z) (hr : Rd W z (.slice a n c) n vs) (hv : VRs m l vs) (ho : ∀ x ∈ l, x.one = true) :
    ∃ m' h' x, Ini O W m' h' ∧ Ext m m' ∧ Keep NoB h h' ∧ VR m' x (.slice a n c) ∧ RS h' z x n l ∧ (∀ g, blk x g → h.n ≤ g) := by
  have hr' := hr
  obtain ⟨h1, h2, a', c', e, h3, h4, h5, h6⟩ := hr
  simp only [Value.slice.injEq] at e
  obtain ⟨rfl, _, rfl⟩ := e
  have hlen : l.length = n * z := by rw [← h1]; exact hv.len.symm
  by_cases hn : n = 0
  · subst hn
    refine ⟨m, h, .semp, H, Ext.refl _, Keep.refl _ _, ?_, ⟨rfl, List.eq_nil_of_length_eq_zero (by simpa using hlen)⟩, fun g q => q.elim⟩
    simp only [VR]
    exact ⟨a, c, rfl, h4, fun e => (h5 e).2⟩
  · cases a with
    | none => exact absurd (h5 rfl).1 hn
    | some ad =>
      obtain ⟨hsp, hc⟩ := h6 ad rfl
      have hs := hsp (Nat.pos_of_ne_zero hn)
      obtain ⟨b, o, sp⟩ := ad
      simp only at hs
      subst hs
      have hnz : 0 < n * z := Nat.mul_pos (Nat.pos_of_ne_zero hn) hz
      have hb : b < W.heap.size := by
        have hj : vs[0]? = some (vs[0]'(by omega)) := List.getElem?_eq_getElem (by omega)
        have := hc 0 _ hj
        exact World.block_lt_of_cell? W _ this
      have hcz : n * z ≤ c * z := Nat.mul_le_mul_right _ h3
      obtain ⟨k1, k2⟩ := H.ro (p := ⟨b, o, o + c * z, z⟩) (l := l) hb (by simp only; omega) (vrs_row hv ho fun j u hu => hr'.cell rfl hu)
      refine ⟨_, _, .slice z h.n 0 n (some c), k1, k2, Keep.push _ _ _, ?_, ⟨rfl, rfl, Nat.lt_succ_self _, l, ?_, by omega, ?_⟩, fun g q => by cases q; exact Nat.le_refl _⟩
      · simp only [VR]
        exact ⟨_, ⟨b, o, none⟩, c, Mu.set_self _ _ _, rfl, h3, h4, fun _ => rfl, ⟨hz, rfl⟩, rfl⟩
      · unfold rowOf; rw [Hp.push_self]
      · rw [List.drop_zero, ← hlen, List.take_length]
theorem vrs_map {α : Type} {m : Mu} {f : α → AV} {g : α → Value} : ∀ {l : List α}, (∀ x ∈ l, VR m (f x) (g x)) → VRs m (l.map f) (l.map g)
  | [], _ => by simp [VRs]
  | x :: l, hx => by
    simp only [List.map_cons, VRs]
    exact ⟨_, _, rfl, hx x (List.mem_cons_self ..), vrs_map fun y hy => hx y (List.mem_cons_of_mem _ hy)⟩
theorem Ini.bytes (H : Ini O W m h) {a : Option Addr} {c : Nat} {l : Bs} (hr : Rd W 1 (.slice a l.length c) l.length (l.map bv)) :
    ∃ m' h' x, Ini O W m' h' ∧ Ext m m' ∧ Keep NoB h h' ∧ VR m' x (.slice a l.length c) ∧ RS h' 1 x l.length (l.map ub) ∧ (∀ g, blk x g → h.n ≤ g) :=
  H.slice Nat.zero_lt_one hr (vrs_map fun x _ => by simp [ub, bv, VR]) (fun x hx => by obtain ⟨_, _, rfl⟩ := List.mem_map.1 hx; rfl)
end
end Am
end Go.Proofs.Ythgcdoahoechhaa
namespace Go.Proofs.Ythgcdoahoechhaa
namespace Am
open Go.RowKit
noncomputable def eqMF (a b : MF) : Bool := k_strEq a.name b.name && k_strEq a.b b.b && Nat.beq a.synced b.synced
noncomputable def eqMFs : List MF → List MF → Bool
  | [], [] => true
  | a :: l, b :: r => eqMF a b && eqMFs l r
  | _, _ => false
noncomputable def eqMD (a b : MD) : Bool := k_eqi a.limit b.limit && k_eqi a.armed b.armed && (a.down == b.down) && eqMFs a.fs b.fs
theorem eqMF_ok {a b : MF} (h : eqMF a b = true) : a = b := by
  obtain ⟨n, c, s⟩ := a
  obtain ⟨n', c', s'⟩ := b
  simp only [eqMF, Bool.and_eq_true, k_strEq_eq, beq_iff_eq] at h
  obtain ⟨⟨rfl, rfl⟩, h3⟩ := h
  rw [Nat.eq_of_beq_eq_true h3]
theorem eqMFs_ok : ∀ {l r : List MF}, eqMFs l r = true → l = r
  | [], [], _ => rfl
  | a :: l, b :: r, h => by
    simp only [eqMFs, Bool.and_eq_true] at h
    rw [eqMF_ok h.1, eqMFs_ok h.2]
  | [], _ :: _, h => by cases h
  | _ :: _, [], h => by cases h
theorem eqMD_ok (a b : MD) (h : eqMD a b = true) : a = b := by
  obtain ⟨l, m, d, f⟩ := a
  obtain ⟨l', m', d', f'⟩ := b
  simp only [eqMD, Bool.and_eq_true, k_eqi_eq, beq_iff_eq] at h
  obtain ⟨⟨⟨rfl, rfl⟩, rfl⟩, h4⟩ := h
  rw [eqMFs_ok h4]
end Am
end Go.Proofs.Ythgcdoahoechhaa
namespace Go.Proofs.Ythgcdoahoechhaa
namespace MD
theorem Ok.dead {m : MD} (h : Ok m) (hd : m.down = true) : m.count = m := by unfold MD.count; rw [h.down hd]; rfl
structure Calm (L : Int) (m : MD) : Prop where
  ok : Ok m
  limit : m.limit = L
  armed : m.armed = 0
  up : m.down = false
def size (m : MD) (s : Bs) : Nat := match m.get s with | none => 0 | some f => f.b.length
theorem Calm.count {L : Int} {m : MD} (h : Calm L m) : m.count = m := by unfold MD.count; rw [h.armed]; rfl
theorem Calm.new {L : Int} (h0 : 0 ≤ L) (h1 : L ≤ 16777216) : Calm L (MD.new L) := ⟨Ok.new h0 h1, rfl, rfl, rfl⟩
theorem used_drop {m : MD} (h : Ok m) (s : Bs) : usedL (dropL MF.name m.fs s) + m.size s = m.used := by
  unfold size MD.get
  cases hg : getL MF.name m.fs s with
  | none => rw [drop_none (get_none.1 hg)]; rfl
  | some f => rw [used_eq, usedL_drop h.rising hg]
theorem length_put (l : List MF) (f : MF) : (putL MF.name l f).length ≤ l.length + 1 := by
  unfold putL
  have h1 : ∀ l : List MF, (l.filter fun x => bl x.name f.name).length + (l.filter fun x => bl f.name x.name).length ≤ l.length := by
    intro l
    induction l with
    | nil => exact Nat.le_refl _
    | cons x l ih =>
      simp only [List.filter_cons, List.length_cons]
      cases h : bl x.name f.name with
      | true => simp [bl_asymm h]; omega
      | false =>
        cases h2 : bl f.name x.name with
        | true => simp; omega
        | false => simp; omega
  have := h1 l
  simp
  omega
theorem length_drop (l : List MF) (s : Bs) : (dropL MF.name l s).length ≤ l.length := List.length_filter_le ..
theorem length_set (l : List MF) (s : Bs) (g : MF → MF) : (setL MF.name l s g).length = l.length := by simp [setL]
theorem Calm.create {L : Int} {m : MD} (h : Calm L m) {s : Bs} (hs : right s = true) :
    ∃ m', m.create s = (0, m') ∧ Calm L m' ∧ m'.used + m.size s = m.used ∧ m'.get s = some ⟨s, [], 0⟩ ∧ (∀ t, t ≠ s → m'.get t = m.get t) ∧ m'.fs.length ≤ m.fs.length + 1 := by
  have e : m.create s = (0, { m with fs := putL MF.name m.fs ⟨s, [], 0⟩ }) := by
    unfold MD.create; rw [h.count, if_neg (by rw [hs]; decide), if_neg (by rw [h.up]; decide)]
  have ok := h.ok.create s
  rw [e] at ok
  refine ⟨_, e, ⟨ok, h.limit, h.armed, h.up⟩, ?_, ?_, fun t ht => ?_, length_put ..⟩
  · rw [used_eq]
    show usedL (putL MF.name m.fs ⟨s, [], 0⟩) + _ = _
    rw [usedL_put]
    exact used_drop h.ok s
  · show getL MF.name (putL MF.name m.fs _) s = _
    rw [h.ok.rising.get_put, if_pos rfl]
  · show getL MF.name (putL MF.name m.fs _) t = _
    rw [h.ok.rising.get_put, if_neg ht]; rfl
theorem Calm.append {L : Int} {m : MD} (h : Calm L m) {s b : Bs} {f : MF} (hf : m.get s = some f) (hb : (m.used : Int) + b.length ≤ L) :
    ∃ m', m.append s b = (0, m') ∧ Calm L m' ∧ m'.used = m.used + b.length ∧ m'.get s = some { f with b := f.b ++ b } ∧ (∀ t, t ≠ s → m'.get t = m.get t) ∧ m'.fs.length = m.fs.length := by
  have e : m.append s b = (0, { m with fs := setL MF.name m.fs s fun f => { f with b := f.b ++ b } }) := by
    unfold MD.append; rw [hf, h.count]
    simp only
    rw [if_neg (by rw [h.limit, h.up]; simp; omega), if_neg (by rw [h.up]; decide)]
  have ok := h.ok.append s b
  rw [e] at ok
  refine ⟨_, e, ⟨ok, h.limit, h.armed, h.up⟩, ?_, ?_, fun t ht => ?_, length_set ..⟩
  · have := usedL_set h.ok.rising hf fun f => { f with b := f.b ++ b }
    have hu := usedL_drop h.ok.rising hf
    rw [used_eq, used_eq]
    simp at this
    show usedL (setL MF.name m.fs s _) = _
    omega
  · show getL MF.name (setL MF.name m.fs s _) s = _
    rw [get_set m.fs s (fun f => { f with b := f.b ++ b }) (fun _ => rfl), show getL MF.name m.fs s = some f from hf]
    simp
  · show getL MF.name (setL MF.name m.fs s _) t = _
    rw [get_set m.fs s (fun f => { f with b := f.b ++ b }) (fun _ => rfl)]
    simp [ht, MD.get]
theorem Calm.sync {L : Int} {m : MD} (h : Calm L m) {s : Bs} {f : MF} (hf : m.get s = some f) :
    ∃ m', m.sync s = (0, m') ∧ Calm L m' ∧ m'.used = m.used ∧ m'.get s = some { f with synced := f.b.length } ∧ (∀ t, t ≠ s → m'.get t = m.get t) ∧ m'.fs.length = m.fs.length := by
  have e : m.sync s = (0, { m with fs := setL MF.name m.fs s fun f => { f with synced := f.b.length } }) := by
    unfold MD.sync; rw [hf, h.count]; simp only; rw [if_neg (by rw [h.up]; decide)]
  have ok := h.ok.sync s
  rw [e] at ok
  refine ⟨_, e, ⟨ok, h.limit, h.armed, h.up⟩, ?_, ?_, fun t ht => ?_, length_set ..⟩
  · have := usedL_set h.ok.rising hf fun f => { f with synced := f.b.length }
    have hu := usedL_drop h.ok.rising hf
    rw [used_eq, used_eq]
    simp at this
    show usedL (setL MF.name m.fs s _) = _
    omega
  · show getL MF.name (setL MF.name m.fs s _) s = _
    rw [get_set m.fs s (fun f => { f with synced := f.b.length }) (fun _ => rfl), show getL MF.name m.fs s = some f from hf]
    simp
  · show getL MF.name (setL MF.name m.fs s _) t = _
    rw [get_set m.fs s (fun f => { f with synced := f.b.length }) (fun _ => rfl)]
    simp [ht, MD.get]
theorem Calm.cut {L : Int} {m : MD} (h : Calm L m) {s : Bs} {f : MF} (hf : m.get s = some f) (n : Nat) (hn : n ≤ f.b.length) :
    ∃ m', m.cut s n = (0, m') ∧ Calm L m' ∧ m'.used + f.b.length = m.used + n ∧ m'.get s = some { f with b := f.b.take n, synced := n } ∧ (∀ t, t ≠ s → m'.get t = m.get t) ∧ m'.fs.length = m.fs.length := by
  have e : m.cut s n = (0, { m with fs := setL MF.name m.fs s fun f => { f with b := f.b.take n, synced := n } }) := by
    unfold MD.cut; rw [hf, h.count]
    simp only
    rw [if_neg (by omega), if_neg (by rw [h.up]; decide)]
    rfl
  have ok := h.ok.cut s n
  rw [e] at ok
  refine ⟨_, e, ⟨ok, h.limit, h.armed, h.up⟩, ?_, ?_, fun t ht => ?_, length_set ..⟩
  · have := usedL_set h.ok.rising hf fun f => { f with b := f.b.take n, synced := n }
    have hu := usedL_drop h.ok.rising hf
    rw [used_eq, used_eq]
    simp at this
    show usedL (setL MF.name m.fs s _) + _ = _
    omega
  · show getL MF.name (setL MF.name m.fs s _) s = _
    rw [get_set m.fs s (fun f => { f with b := f.b.take n, synced := n }) (fun _ => rfl), show getL MF.name m.fs s = some f from hf]
    simp
  · show getL MF.name (setL MF.name m.fs s _) t = _
    rw [get_set m.fs s (fun f => { f with b := f.b.take n, synced := n }) (fun _ => rfl)]
    simp [ht, MD.get]
theorem Calm.rename {L : Int} {m : MD} (h : Calm L m) {a c : Bs} {f : MF} (hf : m.get a = some f) (hc : right c = true) :
    ∃ m', m.rename a c = (0, m') ∧ Calm L m' ∧ m'.used ≤ m.used ∧ m'.get c = some { f with name := c } ∧ (a ≠ c → m'.get a = none) ∧ (∀ t, t ≠ a → t ≠ c → m'.get t = m.get t) ∧ m'.fs.length ≤ m.fs.length := by
  have e : m.rename a c = (0, { m with fs := putL MF.name (dropL MF.name m.fs a) { f with name := c } }) := by
    unfold MD.rename; rw [hf, h.count]; simp only; rw [if_neg (by rw [hc]; decide), if_neg (by rw [h.up]; decide)]
  have ok := h.ok.rename a c
  rw [e] at ok
  have hu := usedL_drop h.ok.rising hf
  have hr := h.ok.rising.drop a
  refine ⟨_, e, ⟨ok, h.limit, h.armed, h.up⟩, ?_, ?_, fun hac => ?_, fun t ht htc => ?_, ?_⟩
  · rw [used_eq, used_eq]
    show usedL (putL MF.name _ _) ≤ _
    rw [usedL_put]
    have := usedL_drop_le (dropL MF.name m.fs a) c
    simp only
    omega
  · show getL MF.name (putL MF.name _ _) c = _
    rw [hr.get_put, if_pos rfl]
  · show getL MF.name (putL MF.name _ _) a = _
    rw [hr.get_put, if_neg hac, h.ok.rising.get_drop, if_pos rfl]
  · show getL MF.name (putL MF.name _ _) t = _
    rw [hr.get_put, if_neg htc, h.ok.rising.get_drop, if_neg ht]; rfl
  · have h1 := length_put (dropL MF.name m.fs a) { f with name := c }
    have h2 : (dropL MF.name m.fs a).length < m.fs.length := by
      unfold dropL
      rw [← List.countP_eq_length_filter]
      have hm := get_mem hf
      rcases Nat.lt_or_ge (List.countP (fun x : MF => x.name != a) m.fs) m.fs.length with h | h
      · exact h
      · have := List.countP_eq_length.1 (Nat.le_antisymm List.countP_le_length h) f hm.1
        simp [hm.2] at this
    show (putL MF.name _ _).length ≤ _
    omega
theorem Calm.remove {L : Int} {m : MD} (h : Calm L m) {s : Bs} {f : MF} (hf : m.get s = some f) :
    ∃ m', m.remove s = (0, m') ∧ Calm L m' ∧ m'.used + f.b.length = m.used ∧ m'.get s = none ∧ (∀ t, t ≠ s → m'.get t = m.get t) ∧ m'.fs.length ≤ m.fs.length := by
  have e : m.remove s = (0, { m with fs := dropL MF.name m.fs s }) := by
    unfold MD.remove; rw [hf, h.count]; simp only; rw [if_neg (by rw [h.up]; decide)]
  have ok := h.ok.remove s
  rw [e] at ok
  refine ⟨_, e, ⟨ok, h.limit, h.armed, h.up⟩, (usedL_drop h.ok.rising hf).symm, ?_, fun t ht => ?_, length_drop ..⟩
  · show getL MF.name (dropL MF.name m.fs s) s = _
    rw [h.ok.rising.get_drop, if_pos rfl]
  · show getL MF.name (dropL MF.name m.fs s) t = _
    rw [h.ok.rising.get_drop, if_neg ht]; rfl
theorem Calm.grow {L : Int} {m : MD} (h : Calm L m) {n : Int} (h0 : (m.used : Int) ≤ n) (h1 : n ≤ 16777216) : m.grow n = (true, { m with limit := n }) ∧ Calm n { m with limit := n } := by
  have e : m.grow n = (true, { m with limit := n }) := by unfold MD.grow; rw [if_neg (by omega)]
  have ok := h.ok.grow n
  rw [e] at ok
  exact ⟨e, ok, rfl, h.armed, h.up⟩
end MD
end Go.Proofs.Ythgcdoahoechhaa
namespace Go.Proofs.Ythgcdoahoechhaa
namespace Am
open Go.RowKit
set_option maxRecDepth 100000
section
variable {X : Type} {h0 h h' : Hp X}
theorem Keep.own {S : Nat → Prop} (a : Keep NoB h0 h) (b : Keep S h h') (hs : ∀ k, S k → h0.n ≤ k) : Keep NoB h0 h' := a.trans b (fun g hg q => absurd (hs g q) (by omega))
theorem Keep.on {S T : Nat → Prop} (a : Keep S h0 h) (b : Keep T h h') (hs : ∀ k, T k → h0.n ≤ k ∨ S k) : Keep S h0 h' := a.trans b (fun g hg q => by rcases hs g q with q | q; omega; exact q)
theorem Keep.and {S : Nat → Prop} (a : Keep S h0 h) (b : Keep NoB h h') : Keep S h0 h' := a.trans b (fun _ _ q => q.elim)
theorem Keep.any {S : Nat → Prop} (a : Keep NoB h0 h) : Keep S h0 h := a.mono (fun _ _ q => q.elim)
theorem RS.up {z n : Nat} {v : AV} {cells : List AV} (a : RS h z v n cells) (k : Keep NoB h h') : RS h' z v n cells := a.keep k (fun _ _ q => q)
theorem OS.up {z n : Nat} {v : AV} {cells : List AV} (a : OS h z v n cells) (k : Keep NoB h h') : OS h' z v n cells := a.keep k (fun _ _ q => q)
structure Bx (h : Hp X) (g : Nat) (l : List AV) : Prop where
  lt : g < h.n
  get : h.get g = some (.rw l)
theorem Bx.keep {S : Nat → Prop} {g : Nat} {l : List AV} (a : Bx h g l) (k : Keep S h h') (hs : ¬ S g) : Bx h' g l := ⟨Nat.lt_of_lt_of_le a.lt k.n, by rw [k.get g a.lt hs]; exact a.get⟩
theorem Bx.up {g : Nat} {l : List AV} (a : Bx h g l) (k : Keep NoB h h') : Bx h' g l := a.keep k (fun q => q)
theorem bx_push {l : List AV} : Bx (h.push (.rw l)) h.n l := ⟨Nat.lt_succ_self _, Hp.push_self _ _⟩
theorem Bx.put {g : Nat} {l r : List AV} (a : Bx h g l) : Bx (h.put g (.rw r)) g r := ⟨a.lt, Hp.put_self _ _ _⟩
theorem Bx.put_ne {g j : Nat} {l : List AV} {c : AB X} (a : Bx h g l) (hj : g ≠ j) : Bx (h.put j c) g l := ⟨a.lt, by rw [Hp.put_ne _ _ _ hj]; exact a.get⟩
structure Ob (h : Hp X) (g : Nat) (x : X) : Prop where
  lt : g < h.n
  get : h.get g = some (.obj x)
theorem Ob.keep {S : Nat → Prop} {g : Nat} {x : X} (a : Ob h g x) (k : Keep S h h') (hs : ¬ S g) : Ob h' g x := ⟨Nat.lt_of_lt_of_le a.lt k.n, by rw [k.get g a.lt hs]; exact a.get⟩
theorem Ob.up {g : Nat} {x : X} (a : Ob h g x) (k : Keep NoB h h') : Ob h' g x := a.keep k (fun q => q)
theorem Ob.put {g : Nat} {x y : X} (a : Ob h g x) : Ob (h.put g (.obj y)) g y := ⟨a.lt, Hp.put_self _ _ _⟩
end
section
variable {X : Type} {e : En} {t : List AV} {h : Hp X}
theorem bytesOf_ub : ∀ b : List UInt8, bytesOf (b.map ub) = some b
  | [] => rfl
  | x :: b => by
    have ih := bytesOf_ub b
    simp only [List.map_cons, bytesOf, ub] at ih ⊢
    simp [ih]
theorem v_b2s {x : Od} {v : AV} {b : List UInt8} (hx : x.ev e t = v) (hr : RS h 1 v b.length (b.map ub)) : (Mv.b2s x).ev e t h = some (.str b) := by
  simp only [Mv.ev, hx]
  cases v <;> first | exact hr.elim | skip
  · obtain ⟨_, rfl, hg, l, hl, hle, hc⟩ := hr
    simp only [hl]
    unfold takeN
    rw [Nat.mul_one] at hle hc
    rw [ble_t hle]
    simp only [cond_true]
    rw [← hc, bytesOf_ub]
  · obtain ⟨h1, _⟩ := hr
    rw [List.eq_nil_of_length_eq_zero h1]
  · obtain ⟨h1, _⟩ := hr
    rw [List.eq_nil_of_length_eq_zero h1]
theorem v_seql {q : Eq} {x y : Od} {a b : List UInt8} (hx : x.ev e t = .str a) (hy : y.ev e t = .str b) : (Mv.bin .eql q x y).ev e t h = some (.bool (a == b)) := by
  simp only [Mv.ev, hx, hy, Am.bin, AV.onStr, strOp]
theorem v_sneq {q : Eq} {x y : Od} {a b : List UInt8} (hx : x.ev e t = .str a) (hy : y.ev e t = .str b) : (Mv.bin .neq q x y).ev e t h = some (.bool (!(a == b))) := by
  simp only [Mv.ev, hx, hy, Am.bin, AV.onStr, strOp]
theorem v_beq {x y : Od} {a b : Bool} (hx : x.ev e t = .bool a) (hy : y.ev e t = .bool b) : (Mv.bin .eql .bool x y).ev e t h = some (.bool (a == b)) := by
  simp [Mv.ev, hx, hy, Am.bin, AV.onBool, eqv]
theorem v_bne {x y : Od} {a b : Bool} (hx : x.ev e t = .bool a) (hy : y.ev e t = .bool b) : (Mv.bin .neq .bool x y).ev e t h = some (.bool (a != b)) := by
  simp [Mv.ev, hx, hy, Am.bin, AV.onBool, eqv, bne]
theorem v_pnil {x : Od} {g o : Nat} (hx : x.ev e t = .ptr g o) : (Mv.bin .eql .ptr x (.const .nilp)).ev e t h = some (.bool false) := by
  show bin .eql .ptr (x.ev e t) .nilp = _
  rw [hx]; rfl
theorem v_add {q : Eq} {x y : Od} {a b : Int} (hx : x.ev e t = .int .i64 a) (hy : y.ev e t = .int .i64 b) (hc : -9223372036854775808 ≤ a + b ∧ a + b < 9223372036854775808) : (Mv.bin .add q x y).ev e t h = some (.int .i64 (a + b)) := by simp [Mv.ev, hx, hy, Am.bin, AV.onInt, intOp, isShift, wr64 hc]
theorem v_bx {x : Od} {g o : Nat} {l : List AV} {v : AV} (hb : Bx h g l) (hx : x.ev e t = .ptr g o) (hv : l[o]? = some v) : (Mv.ld1 x).ev e t h = some v := v_ld1 hx hb.get hv
theorem v_bxn {n : Nat} {x : Od} {g o : Nat} {l : List AV} (hb : Bx h g l) (hx : x.ev e t = .ptr g o) (ho : o + n ≤ l.length) : (Mv.ldn n x).ev e t h = some (.agg ((l.drop o).take n)) := v_ldn hx hb.get ho
theorem ef_bx {a x : Od} {g o : Nat} {l : List AV} {v : AV} (hb : Bx h g l) (ha : a.ev e t = .ptr g o) (hx : x.ev e t = v) (hv : cellsOf v = some [v] ∧ v.one = true) (ho : o < l.length) : (Ef.store 1 a x).ev e t h = some (.bot, h.put g (.rw (spl o [v] l))) := ef_store1 ha hx hv hb.get ho
theorem ef_bxn {n : Nat} {a x : Od} {g o : Nat} {l vs : List AV} (hb : Bx h g l) (ha : a.ev e t = .ptr g o) (hx : x.ev e t = .agg vs) (hall : allOne vs = true) (hn : vs.length = n) (ho : o + n ≤ l.length) : (Ef.store n a x).ev e t h = some (.bot, h.put g (.rw (spl o vs l))) := ef_storeN ha hx hall hn hb.get ho
end
section
variable {X : Type} {e : En} {t : List AV} {h : Hp X}
theorem one_all3 {a b c : AV} (ha : a.one = true) (hb : b.one = true) (hc : c.one = true) : allOne [a, b, c] = true := by
  unfold allOne
  cases a <;> first | (cases ha; done) | (cases b <;> first | (cases hb; done) | (cases c <;> first | (cases hc; done) | rfl))
end
noncomputable def look {X : Type} : List (Nat × Ent X) → Nat → Option (Ent X)
  | [], _ => none
  | p :: r, f => if f = p.1 then some p.2 else look r f
theorem look_mem {X : Type} : ∀ {l : List (Nat × Ent X)} {f : Nat} {e : Ent X}, look l f = some e → (f, e) ∈ l
  | [], _, _, h => by cases h
  | p :: r, f, e, h => by
    unfold look at h
    split at h
    · rename_i hf; cases h; subst hf; exact List.mem_cons_self ..
    · exact List.mem_cons_of_mem _ (look_mem h)
theorem look_plain {X : Type} {l : List (Nat × Ent X)} (hl : ∀ p ∈ l, p.2.plain) : ∀ f e, look l f = some e → e.plain := fun f e h => hl (f, e) (look_mem h)
theorem look_ok {P : Program} {O : Objs} {l : List (Nat × Ent O.X)} (hl : ∀ p ∈ l, ∀ N, FnOK P O p.1 (entF N p.2)) : ∀ f e, look l f = some e → ∀ N, FnOK P O f (entF N e) := fun f e h => hl (f, e) (look_mem h)
section
variable {E : Nat → Option (Ent MD)} (hE : ∀ f e, E f = some e → e.plain)
omit hE in
theorem w_obj {g : Nat} {x : MD} {h : Hp MD} (k : Nat → MD → FRes MD) (hg : Ob h g x) (hn : x.fs.length ≤ 1099511627775) : onObj h (.ptr g 0) k = k g x := by
  unfold onObj
  simp only [Nat.beq_refl, hg.get, cond_true, ble_t hn]
include hE
theorem w_name {f g : Nat} {F : MD → List UInt8 → Int × MD} (hf : E f = some (.nat (n_name F))) {x : MD} {h : Hp MD} (hg : Ob h g x) (hn : x.fs.length ≤ 1099511627775) (s : List UInt8) :
    WF (lim E) f [.ptr g 0, .str s] h fun r h' => r = .int .i64 (F x s).1 ∧ Ob h' g (F x s).2 ∧ Keep (OneB g) h h' := by
  have e : ∀ D, n_name F D [.ptr g 0, .str s] h = .ret (.int .i64 (F x s).1) (h.put g (.obj (F x s).2)) := fun D => w_obj (fun g x => .ret (.int .i64 (F x s).1) (h.put g (.obj (F x s).2))) hg hn
  refine ⟨⟨_, _, (lim_nat hE hf (D := lim E) (by rw [e]; intro q; cases q)).trans (e _), rfl, hg.put, Keep.put _ _ _ rfl⟩⟩
theorem w_rename {f g : Nat} (hf : E f = some (.nat n_rename)) {x : MD} {h : Hp MD} (hg : Ob h g x) (hn : x.fs.length ≤ 1099511627775) (s u : List UInt8) :
    WF (lim E) f [.ptr g 0, .str s, .str u] h fun r h' => r = .int .i64 (x.rename s u).1 ∧ Ob h' g (x.rename s u).2 ∧ Keep (OneB g) h h' := by
  have e : ∀ D, n_rename D [.ptr g 0, .str s, .str u] h = .ret (.int .i64 (x.rename s u).1) (h.put g (.obj (x.rename s u).2)) := fun D => w_obj (fun g x => .ret (.int .i64 (x.rename s u).1) (h.put g (.obj (x.rename s u).2))) hg hn
  refine ⟨⟨_, _, (lim_nat hE hf (D := lim E) (by rw [e]; intro q; cases q)).trans (e _), rfl, hg.put, Keep.put _ _ _ rfl⟩⟩
theorem w_cut {f g : Nat} (hf : E f = some (.nat n_cut)) {x : MD} {h : Hp MD} (hg : Ob h g x) (hn : x.fs.length ≤ 1099511627775) (s : List UInt8) (n : Int) :
    WF (lim E) f [.ptr g 0, .str s, .int .i64 n] h fun r h' => r = .int .i64 (x.cut s n).1 ∧ Ob h' g (x.cut s n).2 ∧ Keep (OneB g) h h' := by
  have e : ∀ D, n_cut D [.ptr g 0, .str s, .int .i64 n] h = .ret (.int .i64 (x.cut s n).1) (h.put g (.obj (x.cut s n).2)) := fun D => w_obj (fun g x => .ret (.int .i64 (x.cut s n).1) (h.put g (.obj (x.cut s n).2))) hg hn
  refine ⟨⟨_, _, (lim_nat hE hf (D := lim E) (by rw [e]; intro q; cases q)).trans (e _), rfl, hg.put, Keep.put _ _ _ rfl⟩⟩
theorem w_int {f g : Nat} {F : MD → Int → MD} (hf : E f = some (.nat (n_int i64ok F))) {x : MD} {h : Hp MD} (hg : Ob h g x) (hn : x.fs.length ≤ 1099511627775) {n : Int} (hi : -9223372036854775808 ≤ n ∧ n ≤ 9223372036854775807) :
    WF (lim E) f [.ptr g 0, .int .i64 n] h fun r h' => r = .tup [] ∧ Ob h' g (F x n) ∧ Keep (OneB g) h h' := by
  have e : ∀ D, n_int i64ok F D [.ptr g 0, .int .i64 n] h = .ret (.tup []) (h.put g (.obj (F x n))) := fun D => by
    show onObj h (.ptr g 0) (fun g x => bif i64ok n then .ret (.tup []) (h.put g (.obj (F x n))) else .bad) = _
    rw [w_obj _ hg hn, show i64ok n = true by simp [i64ok, hi.1, hi.2]]
    rfl
  refine ⟨⟨_, _, (lim_nat hE hf (D := lim E) (by rw [e]; intro q; cases q)).trans (e _), rfl, hg.put, Keep.put _ _ _ rfl⟩⟩
theorem w_down {f g : Nat} (hf : E f = some (.nat n_down)) {x : MD} {h : Hp MD} (hg : Ob h g x) (hn : x.fs.length ≤ 1099511627775) : WF (lim E) f [.ptr g 0] h fun r h' => r = .bool x.down ∧ h' = h := by
  have e : ∀ D, n_down D [.ptr g 0] h = .ret (.bool x.down) h := fun D => w_obj (fun _ x => .ret (.bool x.down) h) hg hn
  exact ⟨⟨_, _, (lim_nat hE hf (D := lim E) (by rw [e]; intro q; cases q)).trans (e _), rfl, rfl⟩⟩
theorem w_used {f g : Nat} (hf : E f = some (.nat n_used)) {x : MD} {h : Hp MD} (hg : Ob h g x) (hn : x.fs.length ≤ 1099511627775) : WF (lim E) f [.ptr g 0] h fun r h' => r = .int .i64 x.used ∧ h' = h := by
  have e : ∀ D, n_used D [.ptr g 0] h = .ret (.int .i64 x.used) h := fun D => w_obj (fun _ x => .ret (.int .i64 x.used) h) hg hn
  exact ⟨⟨_, _, (lim_nat hE hf (D := lim E) (by rw [e]; intro q; cases q)).trans (e _), rfl, rfl⟩⟩
theorem w_synced {f g : Nat} (hf : E f = some (.nat n_synced)) {x : MD} {h : Hp MD} (hg : Ob h g x) (hn : x.fs.length ≤ 1099511627775) (s : List UInt8) : WF (lim E) f [.ptr g 0, .str s] h fun r h' => r = .int .i64 (((x.get s).map MF.synced).getD 0 : Nat) ∧ h' = h := by
  have e : ∀ D, n_synced D [.ptr g 0, .str s] h = .ret (.int .i64 (((x.get s).map MF.synced).getD 0 : Nat)) h := fun D => w_obj (fun _ x => .ret (.int .i64 (((x.get s).map MF.synced).getD 0 : Nat)) h) hg hn
  exact ⟨⟨_, _, (lim_nat hE hf (D := lim E) (by rw [e]; intro q; cases q)).trans (e _), rfl, rfl⟩⟩
omit hE in
theorem bytesR_ub : ∀ b : List UInt8, bytesR (b.map ub) = some b
  | [] => rfl
  | x :: b => by
    have ih := bytesR_ub b
    have hx : Nat.blt x.toNat 256 = true := by rw [Nat.blt_eq]; exact x.toNat_lt
    show (bif Nat.blt x.toNat 256 then (match bytesR (b.map ub) with | some r => some (UInt8.ofNat x.toNat :: r) | none => none) else none) = _
    rw [ih, hx]
    simp
theorem w_append {f g : Nat} (hf : E f = some (.nat n_append)) {x : MD} {h : Hp MD} (hg : Ob h g x) (hn : x.fs.length ≤ 1099511627775) (s : List UInt8) {v : AV} {b : List UInt8} (hr : RS h 1 v b.length (b.map ub)) :
    WF (lim E) f [.ptr g 0, .str s, v] h fun r h' => r = .int .i64 (x.append s b).1 ∧ Ob h' g (x.append s b).2 ∧ Keep (OneB g) h h' := by
  have e : ∀ D, n_append D [.ptr g 0, .str s, v] h = .ret (.int .i64 (x.append s b).1) (h.put g (.obj (x.append s b).2)) := fun D => by
    show onObj h (.ptr g 0) (fun g x => match elems h 1 v with
      | some (_, r) => (match bytesR r with | some b => .ret (.int .i64 (x.append s b).1) (h.put g (.obj (x.append s b).2)) | none => .bad)
      | none => .bad) = _
    rw [w_obj _ hg hn, hr.elems]
    simp only [bytesR_ub]
  refine ⟨⟨_, _, (lim_nat hE hf (D := lim E) (by rw [e]; intro q; cases q)).trans (e _), rfl, hg.put, Keep.put _ _ _ rfl⟩⟩
theorem w_read_none {f g : Nat} (hf : E f = some (.nat n_read)) {x : MD} {h : Hp MD} (hg : Ob h g x) (hn : x.fs.length ≤ 1099511627775) {s : List UInt8} (hs : x.get s = none) :
    WF (lim E) f [.ptr g 0, .str s] h fun r h' => r = .tup [.snil, .bool false] ∧ h' = h := by
  have e : ∀ D, n_read D [.ptr g 0, .str s] h = .ret (.tup [.snil, .bool false]) h := fun D => by
    refine (w_obj (fun _ x => match x.get s with
  | none => .ret (.tup [.snil, .bool false]) h
  | some f => bif Nat.beq f.b.length 0 then .ret (.tup [.semp, .bool true]) h else .ret (.tup [.slice 1 h.n 0 f.b.length none, .bool true]) (h.push (.rw (f.b.map fun b => .int .u8 b.toNat)))) hg hn).trans ?_
    simp only [hs]
  exact ⟨⟨_, _, (lim_nat hE hf (D := lim E) (by rw [e]; intro q; cases q)).trans (e _), rfl, rfl⟩⟩
theorem w_read {f g : Nat} (hf : E f = some (.nat n_read)) {x : MD} {h : Hp MD} (hg : Ob h g x) (hn : x.fs.length ≤ 1099511627775) {s : List UInt8} {m : MF} (hs : x.get s = some m) :
    WF (lim E) f [.ptr g 0, .str s] h fun r h' => ∃ v, r = .tup [v, .bool true] ∧ Keep NoB h h' ∧ RS h' 1 v m.b.length (m.b.map ub) ∧ ∀ k, blk v k → h.n ≤ k := by
  have e : ∀ D, n_read D [.ptr g 0, .str s] h = bif Nat.beq m.b.length 0 then .ret (.tup [.semp, .bool true]) h else .ret (.tup [.slice 1 h.n 0 m.b.length none, .bool true]) (h.push (.rw (m.b.map fun b => .int .u8 b.toNat))) := fun D => by
    refine (w_obj (fun _ x => match x.get s with
  | none => .ret (.tup [.snil, .bool false]) h
  | some f => bif Nat.beq f.b.length 0 then .ret (.tup [.semp, .bool true]) h else .ret (.tup [.slice 1 h.n 0 f.b.length none, .bool true]) (h.push (.rw (f.b.map fun b => .int .u8 b.toNat)))) hg hn).trans ?_
    simp only [hs]
  cases hz : Nat.beq m.b.length 0 with
  | true =>
    have hz' := Nat.eq_of_beq_eq_true hz
    have hb : m.b = [] := List.eq_nil_of_length_eq_zero hz'
    rw [hz] at e
    exact ⟨⟨_, _, (lim_nat hE hf (D := lim E) (by rw [e]; intro q; cases q)).trans (e _), .semp, rfl, Keep.refl _ _, by rw [hb]; exact ⟨rfl, rfl⟩, fun k q => q.elim⟩⟩
  | false =>
    rw [hz] at e
    exact ⟨⟨_, _, (lim_nat hE hf (D := lim E) (by rw [e]; intro q; cases q)).trans (e _), _, rfl, Keep.push _ _ _, rs_push (by simp), fun k q => by cases q; exact Nat.le_refl _⟩⟩
theorem w_new {f : Nat} (hf : E f = some (.nat n_new)) {h : Hp MD} {n : Int} (h0 : 0 ≤ n) (h1 : n ≤ 16777216) : WF (lim E) f [.int .i64 n] h fun r h' => r = .tup [.ptr h.n 0, .int .i64 0] ∧ Ob h' h.n (MD.new n) ∧ Keep NoB h h' ∧ h'.n = h.n + 1 := by
  have e : ∀ D, n_new D [.int .i64 n] h = .ret (.tup [.ptr h.n 0, .int .i64 0]) (h.push (.obj (MD.new n))) := fun D => by
    show (bif decide (0 ≤ n) && decide (n ≤ 16777216) then _ else _ : FRes MD) = _
    rw [decide_eq_true h0, decide_eq_true h1]
    rfl
  exact ⟨⟨_, _, (lim_nat hE hf (D := lim E) (by rw [e]; intro q; cases q)).trans (e _), rfl, ⟨Nat.lt_succ_self _, Hp.push_self _ _⟩, Keep.push _ _ _, rfl⟩⟩
theorem w_names {f g : Nat} (hf : E f = some (.nat n_names)) {x : MD} {h : Hp MD} (hg : Ob h g x) (hn : x.fs.length ≤ 1099511627775) :
    WF (lim E) f [.ptr g 0] h fun r h' => Keep NoB h h' ∧ RS h' 1 r x.fs.length (x.fs.map fun f => .str f.name) ∧ ∀ k, blk r k → h.n ≤ k := by
  have e : ∀ D, n_names D [.ptr g 0] h = bif Nat.beq x.fs.length 0 then .ret .semp h else .ret (.slice 1 h.n 0 x.fs.length none) (h.push (.rw (x.fs.map fun f => .str f.name))) := fun D => w_obj (fun _ (x : MD) => bif Nat.beq x.fs.length 0 then .ret .semp h else .ret (.slice 1 h.n 0 x.fs.length none) (h.push (.rw (x.fs.map fun (f : MF) => AV.str f.name)))) hg hn
  cases hz : Nat.beq x.fs.length 0 with
  | true =>
    have hz' := Nat.eq_of_beq_eq_true hz
    have hb : x.fs = [] := List.eq_nil_of_length_eq_zero hz'
    rw [hz] at e
    exact ⟨⟨_, _, (lim_nat hE hf (D := lim E) (by rw [e]; intro q; cases q)).trans (e _), Keep.refl _ _, by rw [hb]; exact ⟨rfl, rfl⟩, fun k q => q.elim⟩⟩
  | false =>
    rw [hz] at e
    exact ⟨⟨_, _, (lim_nat hE hf (D := lim E) (by rw [e]; intro q; cases q)).trans (e _), Keep.push _ _ _, rs_push (by simp), fun k q => by cases q; exact Nat.le_refl _⟩⟩
end
end Am
end Go.Proofs.Ythgcdoahoechhaa
