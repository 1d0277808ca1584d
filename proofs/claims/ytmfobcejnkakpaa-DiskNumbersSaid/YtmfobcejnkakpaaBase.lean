/- Base words of these proofs: what a call may have turned ('Upd'), a slice that is owned ('Own'), a slice that is read ('Rd'), a block known whole; of no program. -/
import Derived.WalkKit
import Derived.WalkSpells
import Derived.WalkLawsBesides
import Derived.Handy
import Derived.ArgAppend
import Derived.Laws.CopyOwn
import Derived.Deep.QuietTactic
import Derived.BigQuiet
import Derived.Lib.Hide
import Derived.Lib.Bytealg
namespace Go.Proofs.Ytmfobcejnkakpaa
set_option linter.unusedVariables false
set_option linter.unusedSimpArgs false
open Go.RowKit

theorem intv {k : IntKind} {a b : Int} (h : a = b) : Value.int k a = .int k b := by rw [h]

/-- Blocks that lay there and are not of S read as they did. -/
structure Upd (S : Nat → Prop) (w w' : World) : Prop where
  os : w'.os = w.os
  tape : w'.tape = w.tape
  output : w'.output = w.output
  size : w.heap.size ≤ w'.heap.size
  block : ∀ k, k < w.heap.size → ¬ S k → w'.heap[k]? = w.heap[k]?

def NoBlock : Nat → Prop := fun _ => False

namespace Upd
theorem refl (S : Nat → Prop) (w : World) : Upd S w w := ⟨rfl, rfl, rfl, Nat.le_refl _, fun _ _ _ => rfl⟩
theorem trans {S T : Nat → Prop} {a b c : World} (h : Upd S a b) (k : Upd T b c) (hT : ∀ i, T i → S i ∨ a.heap.size ≤ i) : Upd S a c :=
  ⟨k.os.trans h.os, k.tape.trans h.tape, k.output.trans h.output, Nat.le_trans h.size k.size,
    fun i hi hs => (k.block i (Nat.lt_of_lt_of_le hi h.size) (fun ht => by rcases hT i ht with h' | h'; exact hs h'; omega)).trans (h.block i hi hs)⟩
theorem mono {S T : Nat → Prop} {a b : World} (h : Upd S a b) (hT : ∀ i, S i → T i ∨ a.heap.size ≤ i) : Upd T a b :=
  ⟨h.os, h.tape, h.output, h.size, fun i hi ht => h.block i hi (fun hs => by rcases hT i hs with h' | h'; exact ht h'; omega)⟩
theorem drew {S : Nat → Prop} {a w : World} (h : Upd S a w) : Upd S a w.drew := ⟨h.os, h.tape, h.output, h.size, h.block⟩
theorem drewN {S : Nat → Prop} {a w : World} (h : Upd S a w) (n : Nat) : Upd S a (w.drewN n) := ⟨h.os, h.tape, h.output, h.size, h.block⟩
theorem alloc {S : Nat → Prop} {a w : World} (h : Upd S a w) (o : Obj) : Upd S a (w.alloc o) :=
  ⟨h.os, h.tape, h.output, Nat.le_trans h.size (by simp), fun k hk hs => (Below.heap_alloc _ _ _ (Nat.lt_of_lt_of_le hk h.size)).trans (h.block k hk hs)⟩
theorem setCell {S : Nat → Prop} {a w : World} (h : Upd S a w) {p : Addr} (hp : S p.block ∨ a.heap.size ≤ p.block) (u : Value) : Upd S a (w.setCell p u) :=
  ⟨h.os, h.tape, h.output, by simpa using h.size, fun k hk hs => (Below.heap_setCell _ _ _ _ (fun e => by subst e; rcases hp with h' | h'; exact hs h'; omega)).trans (h.block k hk hs)⟩
theorem of_below {S : Nat → Prop} {w w' : World} (h : Below w.heap.size w w') : Upd S w w' := ⟨h.os, h.tape, h.output, h.size, fun k hk _ => h.block k hk⟩
theorem below {S : Nat → Prop} {w w' : World} (h : Upd S w w') (hS : ∀ i, i < w.heap.size → ¬ S i) : Below w.heap.size w w' := ⟨h.os, h.tape, h.output, h.size, fun k hk => h.block k hk (hS k hk)⟩
theorem toBelow {w w' : World} (h : Upd NoBlock w w') : Below w.heap.size w w' := h.below (fun _ _ h => h)
/-- behind a call that only made memory -/
theorem then_below {S : Nat → Prop} {a b c : World} (h : Upd S a b) (k : Below b.heap.size b c) : Upd S a c :=
  h.trans (S := S) (T := NoBlock) ⟨k.os, k.tape, k.output, k.size, fun i hi _ => k.block i hi⟩ (fun _ hi => hi.elim)
theorem cell {S : Nat → Prop} {w w' : World} (h : Upd S w w') {p : Addr} (hp : p.block < w.heap.size) (hs : ¬ S p.block) : w'.cell? p = w.cell? p := World.cell?_of_block (w := w) (h.block p.block hp hs)
theorem frozen {S : Nat → Prop} {w w' : World} (h : Upd S w w') {p : Addr} (hp : p.block < w.heap.size) (hs : ¬ S p.block) : w'.frozen? p = w.frozen? p := World.frozen?_of_block (w := w) (h.block p.block hp hs)
theorem grown {S : Nat → Prop} {a w w' : World} {row : Option Nat} (h : Upd S a w) (hg : w.grownBy w' row) (hr : ∀ k, row = some k → S k ∨ a.heap.size ≤ k) : Upd S a w' :=
  ⟨hg.os.trans h.os, hg.tape.trans h.tape, hg.output.trans h.output, Nat.le_trans h.size hg.size,
    fun k hk hs => (hg.block k (Nat.lt_of_lt_of_le hk h.size) (fun e => by rcases hr k e.symm with h' | h'; exact hs h'; omega)).trans (h.block k hk hs)⟩
end Upd

/-- A block known whole. -/
def Blk (w : World) (b : Nat) (cs : Array Value) (e : TypeId) : Prop := w.heap[b]? = some (.cells cs e (0, 0))

namespace Blk
theorem lt {w : World} {b : Nat} {cs : Array Value} {e : TypeId} (h : Blk w b cs e) : b < w.heap.size := lt_of_block h
theorem cell {w : World} {b : Nat} {cs : Array Value} {e : TypeId} (h : Blk w b cs e) (i : Nat) : w.cell? ⟨b, i, none⟩ = cs[i]? := by
  unfold Blk at h; simp [World.cell?, h]
theorem frozen {w : World} {b : Nat} {cs : Array Value} {e : TypeId} (h : Blk w b cs e) (i : Nat) : w.frozen? ⟨b, i, none⟩ = false := by
  unfold Blk at h; simp [World.frozen?, h]
theorem drew {w : World} {b : Nat} {cs : Array Value} {e : TypeId} (h : Blk w b cs e) : Blk w.drew b cs e := h
theorem drewN {w : World} {b : Nat} {cs : Array Value} {e : TypeId} (h : Blk w b cs e) (n : Nat) : Blk (w.drewN n) b cs e := h
theorem alloc {w : World} {b : Nat} {cs : Array Value} {e : TypeId} (h : Blk w b cs e) (o : Obj) : Blk (w.alloc o) b cs e := (Below.heap_alloc w o b h.lt).trans h
theorem new (w : World) (cs : Array Value) (e : TypeId) : Blk (w.alloc (.cells cs e)) w.heap.size cs e := heap_alloc_new w _
theorem setOther {w : World} {b : Nat} {cs : Array Value} {e : TypeId} (h : Blk w b cs e) {a : Addr} (ha : a.block ≠ b) (u : Value) : Blk (w.setCell a u) b cs e :=
  (Below.heap_setCell w a u b (fun h' => ha h'.symm)).trans h
theorem set {w : World} {b : Nat} {cs : Array Value} {e : TypeId} (h : Blk w b cs e) (i : Nat) (u : Value) : Blk (w.setCell ⟨b, i, none⟩ u) b (cs.setIfInBounds i u) e := by
  have hlt := h.lt
  unfold Blk at h ⊢
  have h' : w.heap[b] = .cells cs e (0, 0) := by simpa [Array.getElem?_eq_getElem hlt] using h
  show (w.heap.modify b _)[b]? = _
  rw [Array.getElem?_eq_getElem (by simpa using hlt), Array.getElem_modify_self, h']
  rfl
theorem same {w w' : World} {b : Nat} {cs : Array Value} {e : TypeId} (h : Blk w b cs e) (hs : w'.heap[b]? = w.heap[b]?) : Blk w' b cs e := hs.trans h
theorem upd {S : Nat → Prop} {w w' : World} {b : Nat} {cs : Array Value} {e : TypeId} (h : Blk w b cs e) (hu : Upd S w w') (hs : ¬ S b) : Blk w' b cs e := h.same (hu.block b h.lt hs)
theorem below {w w' : World} {b : Nat} {cs : Array Value} {e : TypeId} (h : Blk w b cs e) (hu : Below w.heap.size w w') : Blk w' b cs e := h.same (hu.block b h.lt)
theorem setRow {w : World} {b : Nat} {cs : Array Value} {e : TypeId} (h : Blk w b cs e) (ds : Array Value) : Blk (w.setRow b ds) b ds e := setRow_heap w b cs ds e _ h
theorem setRowOther {w : World} {b g : Nat} {cs : Array Value} {e : TypeId} (h : Blk w b cs e) (hg : b ≠ g) (ds : Array Value) : Blk (w.setRow g ds) b cs e := (setRow_other w g b ds (fun e => hg (by simp [e]))).trans h
theorem shape {w : World} {b : Nat} {cs : Array Value} {e : TypeId} (h : Blk w b cs e) : w.shape? b = some (e, cs.size) := by unfold Blk at h; simp [World.shape?, h]
theorem ty {w : World} {b c : Nat} {cs ds : Array Value} {e f : TypeId} (h : Blk w b cs e) (k : Blk w c ds f) (hne : e ≠ f) : b ≠ c := by
  intro hbc; subst hbc; unfold Blk at h k; rw [h] at k; simp only [Option.some.injEq, Obj.cells.injEq] at k; exact hne k.2.1
end Blk

/-- A slice value with n elements, its cells xs, in a block of its own (ob; none: it is nil). -/
def Own (w : World) (e : TypeId) (size : Nat) (v : Value) (n : Nat) (xs : List Value) (ob : Option Nat) : Prop :=
  xs.length = n * size ∧
  ((v = .slice none 0 0 ∧ n = 0 ∧ ob = none) ∨
   ∃ g cap cur, v = .slice (some ⟨g, 0, none⟩) n cap ∧ ob = some g ∧ Blk w g cur e ∧ n ≤ cap ∧ cap ≤ maxLen ∧ cap * size ≤ cur.size ∧ cur.toList.take (n * size) = xs)

/-- A slice value with n elements whose cells read as xs. -/
def Rd (w : World) (size : Nat) (v : Value) (n : Nat) (xs : List Value) : Prop :=
  xs.length = n * size ∧ n ≤ maxLen ∧ ∃ a c, v = .slice a n c ∧ n ≤ c ∧ c ≤ maxLen ∧ (a = none → n = 0 ∧ c = 0) ∧ ∀ ad, a = some ad → (0 < n → ad.spot = none) ∧ ∀ j u, xs[j]? = some u → w.cell? (ad.add j) = some u

namespace Own
variable {w : World} {e : TypeId} {size n : Nat} {v : Value} {xs : List Value} {ob : Option Nat}
theorem nil (w : World) (e : TypeId) (size : Nat) : Own w e size (.slice none 0 0) 0 [] none := ⟨by simp, .inl ⟨rfl, rfl, rfl⟩⟩
theorem len (h : Own w e size v n xs ob) : xs.length = n * size := h.1
theorem lt (h : Own w e size v n xs ob) : ∀ g, ob = some g → g < w.heap.size := by
  intro g hg
  rcases h.2 with ⟨_, _, rfl⟩ | ⟨g', _, _, _, rfl, hb, _⟩
  · cases hg
  · cases hg; exact hb.lt
theorem same {w' : World} (h : Own w e size v n xs ob) (hs : ∀ g, ob = some g → w'.heap[g]? = w.heap[g]?) : Own w' e size v n xs ob := by
  refine ⟨h.1, ?_⟩
  rcases h.2 with h' | ⟨g, cap, cur, hv, hob, hb, r⟩
  · exact .inl h'
  · exact .inr ⟨g, cap, cur, hv, hob, hb.same (hs g hob), r⟩
theorem upd {S : Nat → Prop} {w' : World} (h : Own w e size v n xs ob) (hu : Upd S w w') (hs : ∀ g, ob = some g → ¬ S g) : Own w' e size v n xs ob :=
  h.same fun g hg => hu.block g (h.lt g hg) (hs g hg)
theorem below {w' : World} (h : Own w e size v n xs ob) (hu : Below w.heap.size w w') : Own w' e size v n xs ob := h.same fun g hg => hu.block g (h.lt g hg)
theorem drew (h : Own w e size v n xs ob) : Own w.drew e size v n xs ob := h
theorem drewN (h : Own w e size v n xs ob) (k : Nat) : Own (w.drewN k) e size v n xs ob := h
theorem alloc (h : Own w e size v n xs ob) (o : Obj) : Own (w.alloc o) e size v n xs ob := h.same fun g hg => Below.heap_alloc w o g (h.lt g hg)
theorem setOther (h : Own w e size v n xs ob) {a : Addr} (ha : ob ≠ some a.block) (u : Value) : Own (w.setCell a u) e size v n xs ob :=
  h.same fun g hg => Below.heap_setCell w a u g (fun e => ha (by rw [hg, e]))
theorem block (h : Own w e size v n xs ob) : v.ownBlock = ob := by
  rcases h.2 with ⟨rfl, _, rfl⟩ | ⟨g, cap, cur, rfl, rfl, _⟩ <;> rfl
theorem rd (h : Own w e size v n xs ob) : Rd w size v n xs := by
  refine ⟨h.1, ?_⟩
  rcases h.2 with ⟨rfl, rfl, _⟩ | ⟨g, cap, cur, rfl, _, hb, h1, h2, h3, h4⟩
  · exact ⟨by unfold maxLen; omega, none, 0, rfl, Nat.le_refl _, by unfold maxLen; omega, fun _ => ⟨rfl, rfl⟩, fun _ h => by cases h⟩
  · refine ⟨by omega, some ⟨g, 0, none⟩, cap, rfl, h1, h2, (fun h => by cases h), fun ad had => ?_⟩
    cases had
    refine ⟨fun _ => rfl, fun j u hu => ?_⟩
    have : (⟨g, 0, none⟩ : Addr).add j = ⟨g, j, none⟩ := by unfold Addr.add; split <;> simp_all
    rw [this, hb.cell]
    rw [← h4, List.getElem?_take] at hu
    split at hu
    · simpa using hu
    · cases hu
theorem ofRow {base : Nat} (h : w.ownsRow base e size v n xs) : ∃ ob, Own w e size v n xs ob ∧ ∀ g, ob = some g → base ≤ g := by
  obtain ⟨h1, h2⟩ := h
  rcases h2 with ⟨rfl, rfl⟩ | ⟨g, cap, cur, rfl, hg, hh, h3, h4, h5, h6⟩
  · exact ⟨none, ⟨h1, .inl ⟨rfl, rfl, rfl⟩⟩, fun _ h => by cases h⟩
  · exact ⟨some g, ⟨h1, .inr ⟨g, cap, cur, rfl, rfl, hh, h3, h4, by omega, h6⟩⟩, fun _ h => by cases h; exact hg⟩
theorem some_of (h : Own w e size v n xs ob) (hn : 0 < n) : ∃ g cap cur, v = .slice (some ⟨g, 0, none⟩) n cap ∧ ob = some g ∧ Blk w g cur e ∧ n ≤ cap ∧ cap ≤ maxLen ∧ cap * size ≤ cur.size ∧ cur.toList.take (n * size) = xs := by
  rcases h.2 with ⟨_, h', _⟩ | h'
  · omega
  · exact h'
end Own

/-- what a call ends in that hands back an owned slice: the old one written on, or a new one -/
def RetOwn (w : World) (e : TypeId) (size n : Nat) (xs : List Value) (ob : Option Nat) (en : Ending) (w' : World) : Prop :=
  ∃ v' ob', en = .returned v' ∧ Own w' e size v' n xs ob' ∧ Upd (fun k => ob = some k) w w' ∧ (ob' = ob ∨ ∀ g, ob' = some g → w.heap.size ≤ g)

namespace Rd
variable {w : World} {size n : Nat} {v : Value} {xs : List Value}
theorem len (h : Rd w size v n xs) : xs.length = n * size := h.1
theorem same {w' : World} (h : Rd w size v n xs) (hs : ∀ g, v.ownBlock = some g → w'.heap[g]? = w.heap[g]?) : Rd w' size v n xs := by
  obtain ⟨h1, h2, a, c, rfl, h3, h4, h5, h6⟩ := h
  refine ⟨h1, h2, a, c, rfl, h3, h4, h5, fun ad had => ?_⟩
  obtain ⟨hsp, hc⟩ := h6 ad had
  subst had
  refine ⟨hsp, fun j u hu => ?_⟩
  rw [World.cell?_of_block (w := w)]
  · exact hc j u hu
  · refine hs _ ?_
    show some ad.block = _
    unfold Addr.add; split <;> rfl
theorem drew (h : Rd w size v n xs) : Rd w.drew size v n xs := h
theorem drewN (h : Rd w size v n xs) (k : Nat) : Rd (w.drewN k) size v n xs := h
theorem pos (h : Rd w size v n xs) {j : Nat} {u : Value} (hu : xs[j]? = some u) : 0 < n := by
  have h1 := (List.getElem?_eq_some_iff.1 hu).1
  rcases Nat.eq_zero_or_pos n with h0 | h0
  · subst h0; rw [h.1, Nat.zero_mul] at h1; omega
  · exact h0
theorem upd {S : Nat → Prop} {w' : World} (h : Rd w size v n xs) (hu : Upd S w w') (hs : 0 < n → ∀ g, v.ownBlock = some g → ¬ S g) : Rd w' size v n xs := by
  have hpos := fun {j : Nat} {u : Value} => h.pos (j := j) (u := u)
  obtain ⟨h1, h2, a, c, rfl, h3, h4, h5, h6⟩ := h
  refine ⟨h1, h2, a, c, rfl, h3, h4, h5, fun ad had => ?_⟩
  obtain ⟨hsp, hc⟩ := h6 ad had
  subst had
  refine ⟨hsp, fun j u hu' => ?_⟩
  have hcell := hc j u hu'
  have hb : (ad.add j).block = ad.block := by unfold Addr.add; split <;> rfl
  have hlt := World.block_lt_of_cell? w _ hcell
  rw [hu.cell hlt (by rw [hb]; exact hs (hpos hu') _ rfl)]
  exact hcell
theorem below {w' : World} (h : Rd w size v n xs) (hu : Below w.heap.size w w') : Rd w' size v n xs := h.upd (S := NoBlock) (Upd.of_below hu) (fun _ _ _ h => h)
theorem alloc (h : Rd w size v n xs) (o : Obj) : Rd (w.alloc o) size v n xs := h.upd (S := NoBlock) ((Upd.refl _ _).alloc o) (fun _ _ _ h => h)
theorem old (h : Rd w size v n xs) (h0 : 0 < n * size) : ∀ g, v.ownBlock = some g → g < w.heap.size := by
  intro g hg
  obtain ⟨h1, _, a, c, rfl, _, _, _, h6⟩ := h
  cases a with
  | none => cases hg
  | some ad =>
    cases hg
    have hlt : 0 < xs.length := by omega
    have := World.block_lt_of_cell? w _ ((h6 ad rfl).2 0 xs[0] (by simp [hlt]))
    simpa [Addr.add] using this
/-- the cells, one by one -/
theorem cell (h : Rd w size v n xs) {ad : Addr} {c : Nat} (hv : v = .slice (some ad) n c) {j : Nat} {u : Value} (hu : xs[j]? = some u) : w.cell? ⟨ad.block, ad.off + j, none⟩ = some u := by
  obtain ⟨hlen, _, a, c', hv', _, _, _, h6⟩ := h
  rw [hv] at hv'
  cases hv'
  obtain ⟨hsp, hc⟩ := h6 ad rfl
  have := hc j u hu
  have hn : 0 < n := by
    have h1 := (List.getElem?_eq_some_iff.1 hu).1
    rcases Nat.eq_zero_or_pos n with h0 | h0
    · subst h0; rw [hlen, Nat.zero_mul] at h1; omega
    · exact h0
  obtain ⟨b, o, s⟩ := ad
  obtain rfl : s = none := hsp hn
  rw [Addr.add_lit] at this
  exact this
end Rd
abbrev Bs := List UInt8
def bv (x : UInt8) : Value := .int .u8 x.toNat
def bsv (l : Bs) : ByteArray := ⟨l.toArray⟩
@[simp, go_sem] theorem bsv_toList (l : Bs) : (bsv l).toList = l := ByteArray.toList_mk l
end Go.Proofs.Ytmfobcejnkakpaa
