/- The disk's contracts as a law meets them: the disk lies in memory that the law's own call made. -/
import Derived.Test.YtmfobcejnkakpaaDisk8
namespace Go.Proofs.Ytmfobcejnkakpaa
set_option linter.unusedVariables false
set_option linter.unusedSimpArgs false
open Go.RowKit
set_option maxRecDepth 100000

/-- a disk in memory that was made since w0; what lay in w0 is as it was -/
structure At (w0 w : World) (d : Nat) (m : MD) (S : Nat → Prop) : Prop where
  rep : DiskRep w d m S
  since : ∀ b, S b → w0.heap.size ≤ b
  below : Below w0.heap.size w0 w
def AtPost (w0 : World) (d : Nat) (r : Value) (m : MD) (e : Ending) (w' : World) : Prop := e = .returned r ∧ ∃ S, At w0 w' d m S

/-- bytes that lay there at the beginning -/
theorem sep_old {w0 w : World} {d : Nat} {m : MD} {S : Nat → Prop} (h : At w0 w d m S) {vb : Value} {b : Bs} (hrd : Rd w0 1 vb b.length (b.map bv)) : 0 < b.length → ∀ g, vb.ownBlock = some g → ¬ S g := fun h0 g hg hs => by
  have h1 := hrd.old (by omega) g hg
  have h2 := h.since g hs
  omega
namespace At
variable {w0 w : World} {d : Nat} {m : MD} {S : Nat → Prop}
theorem post {r : Value} {m' : MD} {e : Ending} {w' : World} (h : At w0 w d m S) (hp : DPost w d S r m' e w') : AtPost w0 d r m' e w' := by
  obtain ⟨he, S', h1, h2, h3⟩ := hp
  refine ⟨he, S', h1, fun b hb => ?_, ?_⟩
  · rcases h3 b hb with h' | h'
    · exact h.since b h'
    · exact Nat.le_trans h.below.size h'
  · exact Upd.toBelow ((Upd.of_below (S := NoBlock) h.below).trans h2 (fun b hb => .inr (h.since b hb)))
theorem mem (h : At w0 w d m S) {w' : World} (hb : Below w.heap.size w w') : At w0 w' d m S :=
  ⟨h.rep.below hb, h.since, h.below.trans (hb.mono h.below.size)⟩
/-- other memory that was made since was turned -/
theorem upd (h : At w0 w d m S) {T : Nat → Prop} {w' : World} (hu : Upd T w w') (h1 : ∀ b, S b → ¬ T b) (h2 : ∀ b, T b → w0.heap.size ≤ b) : At w0 w' d m S :=
  ⟨h.rep.upd hu h1, h.since, Upd.toBelow ((Upd.of_below (S := NoBlock) h.below).trans hu (fun b hb => .inr (h2 b hb)))⟩
theorem alloc (h : At w0 w d m S) (o : Obj) : At w0 (w.alloc o) d m S := h.mem ((Below.refl _ _).alloc (Nat.le_refl _) o)
theorem drew (h : At w0 w d m S) : At w0 w.drew d m S := h.mem (Below.refl _ _).drew
theorem drewN (h : At w0 w d m S) (n : Nat) : At w0 (w.drewN n) d m S := h.mem ⟨rfl, rfl, rfl, Nat.le_refl _, fun _ _ => rfl⟩
theorem ok (h : At w0 w d m S) : m.Ok := h.rep.ok
theorem lt (h : At w0 w d m S) {b : Nat} (hb : S b) : b < w.heap.size := h.rep.lt hb
theorem sepOld (h : At w0 w d m S) {g : Nat} (hg : g < w0.heap.size) : ¬ S g := fun hs => by have := h.since g hs; omega
end At

section
variable {w0 w : World} {d : Nat} {m m' : MD} {S : Nat → Prop} {r : Int}
theorem create_at (h : At w0 w d m S) (hn : m.fs.length ≤ 1099511627775) (s : ByteArray) (he : m.create s.data.toList = (r, m')) : Calls Try.prog 21 #[.pointer (some ⟨d, 0, none⟩), .string s] w (AtPost w0 d (.int .i64 r) m') :=
  (create_any h.rep hn s).mono fun _ _ hp => h.post (by rw [he] at hp; exact hp)
theorem append_at (h : At w0 w d m S) (hn : m.fs.length ≤ 1099511627775) (s : ByteArray) (vb : Value) (b : Bs) (hrd : Rd w 1 vb b.length (b.map bv)) (hsep : 0 < b.length → ∀ g, vb.ownBlock = some g → ¬ S g) (he : m.append s.data.toList b = (r, m')) :
    Calls Try.prog 22 #[.pointer (some ⟨d, 0, none⟩), .string s, vb] w (AtPost w0 d (.int .i64 r) m') :=
  (append_any h.rep hn s vb b hrd hsep).mono fun _ _ hp => h.post (by rw [he] at hp; exact hp)
theorem sync_at (h : At w0 w d m S) (hn : m.fs.length ≤ 1099511627775) (s : ByteArray) (he : m.sync s.data.toList = (r, m')) : Calls Try.prog 28 #[.pointer (some ⟨d, 0, none⟩), .string s] w (AtPost w0 d (.int .i64 r) m') :=
  (sync_any h.rep hn s).mono fun _ _ hp => h.post (by rw [he] at hp; exact hp)
theorem cut_at (h : At w0 w d m S) (hn : m.fs.length ≤ 1099511627775) (s : ByteArray) (n : Int) (he : m.cut s.data.toList n = (r, m')) : Calls Try.prog 32 #[.pointer (some ⟨d, 0, none⟩), .string s, .int .i64 n] w (AtPost w0 d (.int .i64 r) m') :=
  (cut_any h.rep hn s n).mono fun _ _ hp => h.post (by rw [he] at hp; exact hp)
theorem rename_at (h : At w0 w d m S) (hn : m.fs.length ≤ 1099511627775) (a c : ByteArray) (he : m.rename a.data.toList c.data.toList = (r, m')) : Calls Try.prog 24 #[.pointer (some ⟨d, 0, none⟩), .string a, .string c] w (AtPost w0 d (.int .i64 r) m') :=
  (rename_any h.rep hn a c).mono fun _ _ hp => h.post (by rw [he] at hp; exact hp)
theorem remove_at (h : At w0 w d m S) (hn : m.fs.length ≤ 1099511627775) (s : ByteArray) (he : m.remove s.data.toList = (r, m')) : Calls Try.prog 26 #[.pointer (some ⟨d, 0, none⟩), .string s] w (AtPost w0 d (.int .i64 r) m') :=
  (remove_any h.rep hn s).mono fun _ _ hp => h.post (by rw [he] at hp; exact hp)
theorem arm_at (h : At w0 w d m S) (n : Int) (h0 : -9223372036854775808 ≤ n) (h1 : n ≤ 9223372036854775807) (he : m.arm n = m') : Calls Try.prog 33 #[.pointer (some ⟨d, 0, none⟩), .int .i64 n] w (AtPost w0 d (.tuple #[]) m') :=
  (arm_any h.rep n h0 h1).mono fun _ _ hp => h.post (by rw [he] at hp; exact hp)
theorem crash_at (h : At w0 w d m S) (hn : m.fs.length ≤ 1099511627775) (n : Int) (h0 : -9223372036854775808 ≤ n) (h1 : n ≤ 9223372036854775807) (he : m.crash n = m') : Calls Try.prog 29 #[.pointer (some ⟨d, 0, none⟩), .int .i64 n] w (AtPost w0 d (.tuple #[]) m') :=
  (crash_any h.rep hn n h0 h1).mono fun _ _ hp => h.post (by rw [he] at hp; exact hp)
theorem grow_at {b : Bool} (h : At w0 w d m S) (hn : m.fs.length ≤ 1099511627775) (n : Int) (he : m.grow n = (b, m')) : Calls Try.prog 31 #[.pointer (some ⟨d, 0, none⟩), .int .i64 n] w (AtPost w0 d (.bool b) m') :=
  (grow_any h.rep hn n).mono fun _ _ hp => h.post (by rw [he] at hp; exact hp)

/-- New: the disk in new memory -/
def NewAt (w0 : World) (n : Int) (e : Ending) (w' : World) : Prop := ∃ d S, e = .returned (.tuple #[.pointer (some ⟨d, 0, none⟩), .int .i64 0]) ∧ At w0 w' d (MD.new n) S
theorem new_at (hb : Below w0.heap.size w0 w) (n : Int) (h0 : 0 ≤ n) (h1 : n ≤ 16777216) : Calls Try.prog 19 #[.int .i64 n] w (NewAt w0 n) :=
  (new_ok n w h0 h1).mono fun _ _ ⟨d, S, he, h1, h2, h3⟩ => ⟨d, S, he, h1, fun b hb' => Nat.le_trans hb.size (h3 b hb'), hb.trans (h2.mono hb.size)⟩

/-- Read: there is none -/
theorem read_none (h : At w0 w d m S) (hn : m.fs.length ≤ 1099511627775) (s : ByteArray) (hg : m.get s.data.toList = none) :
    Calls Try.prog 25 #[.pointer (some ⟨d, 0, none⟩), .string s] w fun e w' => e = .returned (.tuple #[.slice none 0 0, .bool false]) ∧ w' = w := by
  have := read_any h.rep hn s
  rw [hg] at this
  exact this
/-- Read: its bytes -/
def BytesAt (w : World) (b : Bs) (tail : Array Value) (e : Ending) (w' : World) : Prop :=
  ∃ v ob, e = .returned (.tuple (#[v] ++ tail)) ∧ Own w' 5 1 v b.length (b.map bv) ob ∧ Below w.heap.size w w' ∧ ∀ g, ob = some g → w.heap.size ≤ g
theorem read_some (h : At w0 w d m S) (hn : m.fs.length ≤ 1099511627775) (s : ByteArray) {f : MF} (hg : m.get s.data.toList = some f) :
    Calls Try.prog 25 #[.pointer (some ⟨d, 0, none⟩), .string s] w (BytesAt w f.b #[.bool true]) := by
  have := read_any h.rep hn s
  rw [hg] at this
  exact this
end

/-! ### small functions of the statements' packages -/
theorem Rd.takeTo {w : World} {a : Option Addr} {n c k : Nat} {xs : List Value} (h : Rd w 1 (.slice a n c) n xs) (hk : k ≤ n) : Rd w 1 (.slice a k c) k (xs.take k) := by
  obtain ⟨h1, h2, a', c', hv, h3, h4, h5, h6⟩ := h
  simp only [Value.slice.injEq] at hv
  obtain ⟨rfl, _, rfl⟩ := hv
  refine ⟨by simp; omega, by omega, a, c, rfl, by omega, h4, fun e => ⟨by have := (h5 e).1; omega, (h5 e).2⟩, fun ad had => ⟨fun h0 => (h6 ad had).1 (by omega), fun j u hu => (h6 ad had).2 j u ?_⟩⟩
  rw [List.getElem?_take] at hu
  split at hu
  · exact hu
  · cases hu

/-- marigraphkeep.Cut: the first n at the most -/
theorem keepCut_any {w : World} {a : Option Addr} {c : Nat} {b : Bs} (h : Rd w 1 (.slice a b.length c) b.length (b.map bv)) (n : Nat) (hn : n ≤ 1000000) :
    Calls Try.prog 20 #[.slice a b.length c, .int .i64 n] w fun e w' => e = .returned (.slice a (b.take n).length c) ∧ w' = w := by
  have hl : (b.take n).length = min n b.length := by simp
  obtain ⟨_, h2, _, _, hv, h3, h4, h5, _⟩ := h
  simp only [Value.slice.injEq] at hv
  obtain ⟨rfl, _, rfl⟩ := hv
  rw [hl]
  clear hl
  generalize b.length = L at *
  unfold maxLen at h2 h4
  by_cases hlt : n < L
  · have e : min n L = n := by omega
    rw [e]
    go_enter Try.func20, Try.ntmps20
    go_wp2
    go_ret
    exact ⟨rfl, rfl⟩
  · have e : min n L = L := by omega
    rw [e]
    go_enter Try.func20, Try.ntmps20
    go_wp2
    go_ret
    exact ⟨rfl, rfl⟩
theorem keepCut_rd {w : World} {a : Option Addr} {c : Nat} {b : Bs} (h : Rd w 1 (.slice a b.length c) b.length (b.map bv)) (n : Nat) : Rd w 1 (.slice a (b.take n).length c) (b.take n).length ((b.take n).map bv) := by
  have := h.takeTo (k := (b.take n).length) (by simp; omega)
  rw [← List.map_take] at this
  have e : b.take (b.take n).length = b.take n := by simp [List.take_eq_take_iff]
  rw [e] at this
  exact this

/-- marigraphbook.Within: its answer lies in the bounds, and is n where n does -/
def within (n lo hi : Int) : Int := if lo ≤ n ∧ n ≤ hi then n else if n.tmod (hi - lo + 1) < 0 then lo + (n.tmod (hi - lo + 1) + hi - lo + 1) else lo + n.tmod (hi - lo + 1)
theorem within_in (n lo hi : Int) (h : lo ≤ hi) : lo ≤ within n lo hi ∧ within n lo hi ≤ hi := by
  unfold within
  split
  · assumption
  · have h1 := Int.tmod_lt_of_pos n (show 0 < hi - lo + 1 by omega)
    have h2 := Int.lt_tmod_of_pos n (show 0 < hi - lo + 1 by omega)
    split <;> omega
theorem within_id {n lo hi : Int} (h0 : lo ≤ n) (h1 : n ≤ hi) : within n lo hi = n := by unfold within; rw [if_pos ⟨h0, h1⟩]
set_option maxHeartbeats 400000 in
theorem within_any (n lo hi : Int) (w : World) (hn : -9223372036854775808 ≤ n ∧ n ≤ 9223372036854775807) (hlo : -1099511627776 ≤ lo) (h : lo ≤ hi) (hhi : hi ≤ 1099511627776) :
    Calls Try.prog 23 #[.int .i64 n, .int .i64 lo, .int .i64 hi] w fun e w' => e = .returned (.int .i64 (within n lo hi)) ∧ w' = w := by
  obtain ⟨hn0, hn1⟩ := hn
  have h1 := Int.tmod_lt_of_pos n (show 0 < hi - lo + 1 by omega)
  have h2 := Int.lt_tmod_of_pos n (show 0 < hi - lo + 1 by omega)
  by_cases hi1 : lo ≤ n ∧ n ≤ hi
  · have e : within n lo hi = n := by unfold within; rw [if_pos hi1]
    obtain ⟨ha, hb⟩ := hi1
    rw [e]
    clear h1 h2 e
    go_enter Try.func23, Try.ntmps23
    go_wp2
    go_ret
    exact ⟨rfl, rfl⟩
  · by_cases hneg : n.tmod (hi - lo + 1) < 0
    · have e : within n lo hi = lo + (n.tmod (hi - lo + 1) + hi - lo + 1) := by unfold within; rw [if_neg hi1, if_pos hneg]
      rw [e]
      by_cases hlow : lo ≤ n
      all_goals
        clear e
        go_enter Try.func23, Try.ntmps23
        go_wp2
        go_ret
        exact ⟨rfl, rfl⟩
    · have e : within n lo hi = lo + n.tmod (hi - lo + 1) := by unfold within; rw [if_neg hi1, if_neg hneg]
      rw [e]
      by_cases hlow : lo ≤ n
      all_goals
        clear e
        go_enter Try.func23, Try.ntmps23
        go_wp2
        go_ret
        exact ⟨rfl, rfl⟩
end Go.Proofs.Ytmfobcejnkakpaa
