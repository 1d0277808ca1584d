/- The plain machine: its operations that write or make memory. -/
import Derived.Test.YtmfobcejnkakpaaAm6
namespace Go.Proofs.Ytmfobcejnkakpaa
set_option linter.unusedVariables false
set_option linter.unusedSimpArgs false
namespace Am
open Go.RowKit
set_option maxRecDepth 10000
variable {P : Program}

/-- what a writing operation has come to -/
def EfPost (O : Objs) (w0 : World) (m : Mu) (h : Hp O.X) (v : AV) (h' : Hp O.X) (r : Result Next) : Prop :=
  ∃ m' φ' w' v', (∀ g, g < h.n → m' g = m g) ∧ h.n ≤ h'.n ∧ SR O w0 w' m' φ' h' ∧ VR m' v v' ∧ (r = .ok (.value v') w' ∨ (r = .ok .skip w' ∧ v' = undef))
theorem grow_ext {O : Objs} {w0 w : World} {m m' : Mu} {φ : Ph} {h : Hp O.X} (hs : SR O w0 w m φ h) (hg : ∀ g, g < h.n → m' g = m g) : Ext m m' := fun g p hp => by rw [hg g (hs.dom g p hp)]; exact hp

theorem setCell_block {w : World} {b o : Nat} {cs : Array Value} {ty : TypeId} {fz : Nat × Nat} (h : w.heap[b]? = some (.cells cs ty fz)) (v : Value) :
    (w.setCell ⟨b, o, none⟩ v).heap[b]? = some (.cells (cs.setIfInBounds o v) ty fz) := by
  have hlt := lt_of_block h
  have h' : w.heap[b] = .cells cs ty fz := by simpa [Array.getElem?_eq_getElem hlt] using h
  show (w.heap.modify b _)[b]? = _
  rw [Array.getElem?_eq_getElem (by simpa using hlt), Array.getElem_modify_self, h']
  rfl
theorem setCells_block {b : Nat} {ty : TypeId} {fz : Nat × Nat} : ∀ (vs : List Value) (o : Nat) (w : World) (cs : Array Value), w.heap[b]? = some (.cells cs ty fz) → o + vs.length ≤ cs.size →
    ∃ cs', (w.setCells b o vs).heap[b]? = some (.cells cs' ty fz) ∧ cs'.size = cs.size ∧ ∀ i, cs'[i]? = if o ≤ i ∧ i < o + vs.length then vs[i - o]? else cs[i]?
  | [], o, w, cs, h, _ => ⟨cs, h, rfl, fun i => by rw [if_neg (by simp)]⟩
  | v :: vs, o, w, cs, h, hl => by
    obtain ⟨cs', h1, h2, h3⟩ := setCells_block vs (o + 1) (w.setCell ⟨b, o, none⟩ v) (cs.setIfInBounds o v) (setCell_block h v) (by simp at hl ⊢; omega)
    refine ⟨cs', h1, by rw [h2, Array.size_setIfInBounds], fun i => ?_⟩
    rw [h3, Array.getElem?_setIfInBounds]
    simp only [List.length_cons] at hl ⊢
    by_cases e : o = i
    · subst e
      rw [if_neg (by omega), if_pos rfl, if_pos (by omega), if_pos (by omega)]
      simp
    · by_cases h4 : o + 1 ≤ i ∧ i < o + 1 + vs.length
      · rw [if_pos h4, if_pos (by omega), show i - o = (i - (o + 1)) + 1 by omega, List.getElem?_cons_succ]
      · rw [if_neg h4, if_neg e, if_neg (by omega)]
theorem upd_setCells {S : Nat → Prop} {b : Nat} (hb : S b) : ∀ (vs : List Value) (o : Nat) {w0 w : World}, Upd S w0 w → Upd S w0 (w.setCells b o vs)
  | [], _, _, _, h => h
  | v :: vs, o, _, _, h => upd_setCells hb vs (o + 1) (h.setCell (p := ⟨b, o, none⟩) (.inl hb) v)

/-- cells laid over others -/
def spl (off : Nat) (vs l : List AV) : List AV := l.take off ++ (vs ++ l.drop (off + vs.length))
theorem spl_len {off : Nat} {vs l : List AV} (h : off + vs.length ≤ l.length) : (spl off vs l).length = l.length := by simp [spl]; omega
theorem spl_get {off : Nat} {vs l : List AV} (h : off + vs.length ≤ l.length) (i : Nat) : (spl off vs l)[i]? = if off ≤ i ∧ i < off + vs.length then vs[i - off]? else l[i]? := by
  unfold spl
  rw [List.getElem?_append, List.length_take, Nat.min_eq_left (by omega)]
  by_cases h1 : i < off
  · rw [if_pos h1, if_neg (by omega), List.getElem?_take, if_pos h1]
  · rw [if_neg h1, List.getElem?_append]
    by_cases h2 : i < off + vs.length
    · rw [if_pos (by omega), if_pos (by omega)]
    · rw [if_neg (by omega), if_neg (by omega), List.getElem?_drop]
      congr 1
      omega
theorem VRs.all_one {m : Mu} {vs : List AV} {vs' : List Value} (h : VRs m vs vs') (h1 : ∀ a ∈ vs, a.one = true) : ∀ v ∈ vs', v.oneCell' = true := by
  intro v hv
  obtain ⟨i, hi, rfl⟩ := List.mem_iff_getElem.1 hv
  have hi' : i < vs.length := by rw [← h.len]; exact hi
  obtain ⟨v', h2, h3⟩ := h.get (List.getElem?_eq_getElem hi')
  rw [List.getElem?_eq_getElem hi] at h2
  cases h2
  exact h3.one (h1 _ (List.getElem_mem hi'))
namespace SR
variable {O : Objs} {w0 w : World} {m : Mu} {φ : Ph} {h : Hp O.X}
/-- cells of a block of its own: there, and not frozen -/
theorem open_rw (H : SR O w0 w m φ h) {g : Nat} {l : List AV} {p : Pl} (hg : h.get g = some (.rw l)) (hp : m g = some p) {off n : Nat} (hl : off + n ≤ l.length) :
    (∀ j, j < n → (w.cell? ⟨p.b, p.s + off + j, none⟩).isSome = true) ∧ ∀ j, j < n → w.frozen? ⟨p.b, p.s + off + j, none⟩ = false := by
  obtain ⟨cs, ty, fz, h1, h2, h3, h4, h5, h6, h7⟩ := H.blk g _ hg p hp
  refine ⟨fun j hj => ?_, fun j hj => ?_⟩
  · have : p.s + off + j < cs.size := by omega
    simp [World.cell?, h1, this]
  · have := h2.at (i := p.s + off + j) (by omega)
    simp only [World.frozen?, h1]
    exact this
theorem write (H : SR O w0 w m φ h) {g : Nat} {l vs : List AV} {vs' : List Value} {p : Pl} (hg : h.get g = some (.rw l)) (hp : m g = some p) {off : Nat} (hl : off + vs.length ≤ l.length) (hv : VRs m vs vs') (h1 : ∀ a ∈ vs, a.one = true) :
    SR O w0 (w.setCells p.b (p.s + off) vs') m (φ.set g fun k => k = p.b) (h.put g (.rw (spl off vs l))) := by
  obtain ⟨cs, ty, fz, b1, b2, b3, b4, b5, b6, b7⟩ := H.blk g _ hg p hp
  have hlen := hv.len
  obtain ⟨cs', c1, c2, c3⟩ := setCells_block vs' (p.s + off) w cs b1 (by omega)
  refine H.upd (c' := .rw (spl off vs l)) hg rfl hp (upd_setCells ((b6 p.b).2 rfl) vs' _ (Upd.refl _ _)) ?_ rfl (fun k hk => .inl ((b6 k).2 hk))
  refine ⟨cs', ty, fz, c1, c2.symm ▸ b2, by omega, by rw [spl_len hl]; exact b4, fun i v hi => ?_, fun k => Iff.rfl, b7⟩
  rw [spl_get hl] at hi
  show ∃ v', cs'[p.s + i]? = some v' ∧ _
  rw [c3]
  by_cases hin : off ≤ i ∧ i < off + vs.length
  · rw [if_pos hin] at hi
    rw [if_pos (by omega), show p.s + i - (p.s + off) = i - off by omega]
    obtain ⟨v', d1, d2⟩ := hv.get hi
    exact ⟨v', d1, d2, h1 _ (List.mem_of_getElem? hi)⟩
  · rw [if_neg hin] at hi
    rw [if_neg (by omega)]
    exact b5 i v hi
/-- a new block -/
theorem alloc (H : SR O w0 w m φ h) {l : List AV} {cs : Array Value} {ty : TypeId} {fz : Nat × Nat} (hv : VRs m l (cs.toList.take l.length)) (hl : l.length ≤ cs.size) (h1 : ∀ a ∈ l, a.one = true) (hfz : FzOK fz cs.size) {z e : Nat} (hz : z = 0 → fz = (0, 0)) (he : e ≤ cs.size) (hle : l.length ≤ e) :
    SR O w0 (w.alloc (.cells cs ty fz)) (m.set h.n ⟨w.heap.size, 0, e, z⟩) (φ.set h.n fun k => k = w.heap.size) (h.push (.rw l)) := by
  refine H.new ((Below.refl _ _).alloc (Nat.le_refl _) _) ?_ (fun _ k hk => by omega)
  refine ⟨cs, ty, fz, heap_alloc_new w _, hfz, he, by simpa using hle, fun i v hi => ?_, fun k => Iff.rfl, hz⟩
  obtain ⟨v', d1, d2⟩ := hv.get hi
  rw [List.getElem?_take] at d1
  split at d1
  · exact ⟨v', by simpa using d1, d2.ext (Mu.ext_set H.none_n _), h1 _ (List.mem_of_getElem? hi)⟩
  · cases d1
end SR

inductive Ef where
  | alloc (cs : List AV)
  | box (x : Od)
  | bslice (z len : Nat) (zero : List AV) (parts : List (Nat × Nat × Od))
  | store (n : Nat) (a x : Od)
  | append (z bytes : Nat) (x y : Od)
  | appz (z bytes : Nat) (zero : List AV) (x n : Od)
  | copy (z : Nat) (x y : Od)
  | clear (z : Nat) (zero : List AV) (x : Od)
  | mkslice (z bytes : Nat) (zero : List AV) (l c : Od)
  | s2b (x : Od)
  | mark (x : Od)

def allOne : List AV → Bool
  | [] => true
  | a :: l => a.one && allOne l
theorem allOne_ok {l : List AV} (h : allOne l = true) : ∀ a ∈ l, a.one = true := by
  induction l with
  | nil => intro a ha; cases ha
  | cons x l ih =>
    simp only [allOne, Bool.and_eq_true] at h
    intro a ha
    rcases List.mem_cons.1 ha with rfl | ha
    · exact h.1
    · exact ih h.2 a ha
theorem cellsOf_ok {m : Mu} {a : AV} {l : List AV} {v : Value} (h : cellsOf a = some l) (hv : VR m a v) : VRs m l v.cells.toList := by
  cases a <;> simp only [cellsOf] at h <;> first | (cases h; done) | skip
  case agg cs => cases h; obtain ⟨vs, rfl, h2⟩ := VR.agg_inv hv; simpa [Value.cells] using h2
  all_goals
    cases h
    have : v.cells = #[v] := by
      have := hv.one (by rfl)
      cases v <;> first | rfl | (simp [Value.oneCell'] at this)
    rw [this]
    simp only [VRs]
    exact ⟨v, [], rfl, hv, rfl⟩
/-- n times -/
def rep (l : List AV) : Nat → List AV
  | 0 => []
  | n + 1 => l ++ rep l n
/-- the cells of a slice that is read -/
noncomputable def elems {X : Type} (h : Hp X) (z : Nat) (y : AV) : Option (Nat × List AV) :=
  match y with
  | .snil => some (0, [])
  | .semp => some (0, [])
  | .slice z' g off len _ => bif Nat.beq z' z then (match rowOf h g with
    | some l => (match takeN (len * z) off l with | some r => some (len, r) | none => none)
    | none => none) else none
  | _ => none
/-- what is appended: vs, m elements -/
noncomputable def appA {X : Type} (h : Hp X) (z bytes : Nat) (x : AV) (m : Nat) (vs : List AV) : Option (AV × Hp X) :=
  bif Nat.beq m 0 then (match x with | .snil => some (.snil, h) | .slice z' g off len cap => some (.slice z' g off len cap, h) | _ => none) else
  match x with
  | .snil => bif Nat.ble (m * bytes) 140737488355328 && Nat.ble m maxLen then some (.slice z h.n 0 m none, h.push (.rw vs)) else none
  | .slice z' g off len cap =>
    bif !(Nat.beq z' z && Nat.ble ((len + m) * bytes) 140737488355328 && Nat.ble (len + m) maxLen) then none else
    match cap with
    | some k =>
      bif Nat.ble (len + m) k then
        (match h.get g with
        | some (.rw l) => bif Nat.ble (off + (len + m) * z) l.length then some (.slice z g off (len + m) (some k), h.put g (.rw (spl (off + len * z) vs l))) else none
        | _ => none)
      else (match rowOf h g with
        | some l => (match takeN (len * z) off l with | some r => some (.slice z h.n 0 (len + m) none, h.push (.rw (r ++ vs))) | none => none)
        | none => none)
    | none =>
      match h.get g with
      | some (.rw l) =>
        bif Nat.ble (off + (len + m) * z) l.length then some (.slice z g off (len + m) none, h.put g (.rw (spl (off + len * z) vs l)))
        else (match takeN (len * z) off l with | some r => some (.slice z h.n 0 (len + m) none, (h.del g).push (.rw (r ++ vs))) | none => none)
      | _ => none
  | _ => none

/-- what is copied: vs, m elements -/
noncomputable def copyA {X : Type} (h : Hp X) (z : Nat) (x : AV) (m : Nat) (vs : List AV) : Option (AV × Hp X) :=
  match x with
  | .snil => some (.int .i64 0, h)
  | .slice z' g off len _ => bif Nat.beq z' z then (bif Nat.beq (min m len) 0 then some (.int .i64 0, h) else (match h.get g with
    | some (.rw l) => bif Nat.ble (off + min m len * z) l.length then some (.int .i64 ((min m len : Nat) : Int), h.put g (.rw (spl off (vs.take (min m len * z)) l))) else none
    | _ => none)) else none
  | _ => none
noncomputable def Ef.ev {X : Type} (o : Ef) (e : En) (t : List AV) (h : Hp X) : Option (AV × Hp X) :=
  match o with
  | .alloc cs => some (.ptr h.n 0, h.push (.rw cs))
  | .box x => match cellsOf (x.ev e t) with
    | some l => bif allOne l then some (.ptr h.n 0, h.push (.rw l)) else none
    | none => none
  | .bslice z len zero parts => match fillA (rep zero len) (parts.map fun p => (p.1, p.2.1, p.2.2.ev e t)) with
    | some l => bif allOne l && Nat.beq l.length (len * z) && Nat.ble len maxLen then some (.slice z h.n 0 len (some len), h.push (.rw l)) else none
    | none => none
  | .store n a x => match a.ev e t with
    | .ptr g off => (match cellsOf (x.ev e t) with
      | some vs => bif allOne vs && Nat.beq vs.length n then (match h.get g with
        | some (.rw l) => bif Nat.ble (off + n) l.length then some (.bot, h.put g (.rw (spl off vs l))) else none
        | _ => none) else none
      | none => none)
    | _ => none
  | .append z bytes x y => match elems h z (y.ev e t) with
    | some (m, vs) => appA h z bytes (x.ev e t) m vs
    | none => none
  | .appz z bytes zero x n => match x.ev e t with
    | .snil => (match nOf (n.ev e t) with
      | some k => bif !Nat.beq k 0 && Nat.ble (k * bytes) 140737488355328 && Nat.ble k maxLen then some (.slice z h.n 0 k none, h.push (.rw (rep zero k))) else none
      | none => none)
    | _ => none
  | .copy z x y => match elems h z (y.ev e t) with
    | some (m, vs) => copyA h z (x.ev e t) m vs
    | none => none
  | .clear z zero x => match x.ev e t with
    | .snil => some (.tup [], h)
    | .slice z' g off len _ => bif Nat.beq z' z then (bif Nat.beq len 0 then some (.tup [], h) else (match h.get g with
        | some (.rw l) => bif Nat.ble (off + len * z) l.length then some (.tup [], h.put g (.rw (spl off (rep zero len) l))) else none
        | _ => none)) else none
    | _ => none
  | .mkslice z bytes zero l c => match nOf (l.ev e t), nOf (c.ev e t) with
    | some n, some k => bif Nat.ble n k && Nat.ble (bytes * k) 140737488355328 && Nat.ble k maxLen then some (.slice z h.n 0 n (some k), h.push (.rw (rep zero k))) else none
    | _, _ => none
  | .s2b x => match x.ev e t with
    | .str s => bif Nat.ble s.length maxLen then some (.slice 1 h.n 0 s.length none, h.push (.rw (s.map fun b => .int .u8 b.toNat))) else none
    | _ => none
  | .mark x => match x.ev e t with
    | .slice z g off len cap => bif Nat.beq len 0 then none else (match h.get g with | some (.rw l) => some (.slice z g off len cap, h.put g (.rw l)) | _ => none)
    | _ => none

/-- the operation o does what ef does -/
def EfOK (P : Program) (keep : List Nat) (o : Oper) (ef : Ef) : Prop :=
  ∀ {O : Objs} {w0 w : World} {m : Mu} {φ : Ph} {h : Hp O.X} {nt : Nat} {e : En} {t : List AV} {a : Act}, SR O w0 w m φ h → FR m keep nt e t a → ∀ {v : AV} {h' : Hp O.X}, ef.ev e t h = some (v, h') →
    EfPost O w0 m h v h' ((execOp a.eval o).run P w)
theorem grow_set (m : Mu) (n : Nat) (p : Pl) : ∀ g, g < n → m.set n p g = m g := fun g hg => by simp [Mu.set]; omega

section
variable {keep : List Nat} {o : Oper}
theorem fz00 {n : Nat} : FzOK (0, 0) n := .inl rfl
theorem efok_alloc {ty : TypeId} {i : TypeInfo} {z : Value} {l : List AV} (ho : o.op = .alloc ty) (hi : P.info? ty = some i) (hz : i.zero = some z) (hl : avOfs z.cells.toList = some l) : EfOK P keep o (.alloc l) := by
  intro O w0 w m φ h nt e t ac hs hf v h' hv
  cases hv
  obtain ⟨h1, h2⟩ := avOfs_ok m hl
  have hlen : l.length = z.cells.size := by have := h1.len; simpa using this.symm
  refine ⟨_, _, _, .pointer (some ⟨w.heap.size, 0, none⟩), grow_set m _ ⟨w.heap.size, 0, z.cells.size, 0⟩, Nat.le_succ _, hs.alloc (ty := ty) (fz := (0, 0)) (cs := z.cells) (by rw [hlen, ← Array.length_toList, List.take_length]; exact h1) (by omega) h2 fz00 (fun _ => rfl) (Nat.le_refl _) (by omega), ⟨_, Mu.set_self _ _ _, by simp⟩, .inl ?_⟩
  simp [execOp, ho, Instr.alloc, zeroValue, typeInfo, hi, hz, newVar, newRow]
theorem efok_box {ty : TypeId} {x : Operand} {x' : Od} (ho : o.op = .box ty x) (hx : odOf keep x = some x') : EfOK P keep o (.box x') := by
  intro O w0 w m φ h nt e t ac hs hf v h' hv
  have h1 := hf.od hx
  simp only [Ef.ev] at hv
  cases hc : cellsOf (x'.ev e t) with
  | none => rw [hc] at hv; cases hv
  | some l =>
    rw [hc] at hv
    simp only at hv
    obtain ⟨h2, hv⟩ := bif_some hv
    cases hv
    have h3 := cellsOf_ok hc h1
    have hlen : l.length = (ac.eval x).cells.size := by have := h3.len; simpa using this.symm
    refine ⟨_, _, _, .pointer (some ⟨w.heap.size, 0, none⟩), grow_set m _ ⟨w.heap.size, 0, (ac.eval x).cells.size, 0⟩, Nat.le_succ _, hs.alloc (ty := ty) (fz := (0, 0)) (cs := (ac.eval x).cells) (by rw [hlen, ← Array.length_toList, List.take_length]; exact h3) (by omega) (allOne_ok h2) fz00 (fun _ => rfl) (Nat.le_refl _) (by omega), ⟨_, Mu.set_self _ _ _, by simp⟩, .inl ?_⟩
    simp [execOp, ho, Instr.box, newVar, newRow]
theorem efok_store {ty : TypeId} {a x : Operand} {a' x' : Od} {i : TypeInfo} (ho : o.op = .store ty a x) (hi : P.info? ty = some i) (ha : odOf keep a = some a') (hx : odOf keep x = some x') : EfOK P keep o (.store i.size a' x') := by
  intro O w0 w m φ h nt e t ac hs hf v h' hv
  have h1 := hf.od ha
  have h2 := hf.od hx
  simp only [Ef.ev] at hv
  have fin : ∀ y w', ac.eval a = y → (Instr.storeAt ty y (ac.eval x)).run P w = .ok () w' → (execOp ac.eval o).run P w = .ok .skip w' := fun y w' h1 h2 => by simp [execOp, ho, h1, h2]
  generalize a'.ev e t = aa at *
  cases aa <;> simp only [] at hv <;> first | (cases hv; done) | skip
  rename_i g off
  cases hc : cellsOf (x'.ev e t) with
  | none => rw [hc] at hv; cases hv
  | some vs =>
    rw [hc] at hv
    simp only at hv
    cases hb : (allOne vs && Nat.beq vs.length i.size) with
    | false => rw [hb] at hv; cases hv
    | true =>
      rw [hb] at hv
      simp only [cond_true] at hv
      rw [Bool.and_eq_true] at hb
      obtain ⟨hone, hsz⟩ := hb
      have hsz := Nat.eq_of_beq_eq_true hsz
      split at hv
      · rename_i l hg
        obtain ⟨hle, hv⟩ := bif_some hv
        have hle := Nat.le_of_ble_eq_true hle
        cases hv
        obtain ⟨p, hp, hval⟩ := h1
        have hvs := cellsOf_ok hc h2
        have hlen := hvs.len
        rw [← hsz] at hle
        obtain ⟨k1, k2⟩ := hs.open_rw hg hp hle
        refine ⟨m, _, _, undef, fun _ _ => rfl, Nat.le_refl _, hs.write hg hp hle hvs (allOne_ok hone), by simp [VR], .inr ⟨fin _ _ hval ?_, rfl⟩⟩
        have hst := run_storeCells_cells (P := P) p.b (p.s + off) (ac.eval x).cells.toList 0 w (fun j hj => by simpa using k1 j (by rw [← hlen]; exact hj)) (fun j hj => by simpa using k2 j (by rw [← hlen]; exact hj)) (hvs.all_one (allOne_ok hone))
        have hsz' : (ac.eval x).cells.size = i.size := by rw [← hsz, ← hlen]; simp
        unfold Instr.storeAt Instr.sureAddr storeVar
        simp only [Sem.run_bind, Sem.run_pure, Result.andThen_ok, sizeOf, typeInfo, run_program, hi, hsz', ne_eq, not_true_eq_false, if_false]
        exact hst
      · cases hv
end
end Am
end Go.Proofs.Ytmfobcejnkakpaa
