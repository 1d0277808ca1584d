/- How a disk lies in memory; its search, its count of calls. -/
import Derived.Test.YtmfobcejnkakpaaDisk0
import Derived.Test.YtmfobcejnkakpaaLaws
import Derived.Test.YtmfobcejnkakpaaDiskO
namespace Go.Proofs.Ytmfobcejnkakpaa
set_option linter.unusedVariables false
set_option linter.unusedSimpArgs false
open Go.RowKit
set_option maxRecDepth 100000

def ptrV (p : Nat) : Value := .pointer (some ⟨p, 0, none⟩)

/-- a file as it lies in memory -/
structure FM where
  p : Nat
  name : ByteArray
  v : Value
  b : Bs
  synced : Nat
  ob : Option Nat
instance : Inhabited FM := ⟨⟨0, default, .nilFunc, [], 0, none⟩⟩
def FM.abs (f : FM) : MF := ⟨f.name.data.toList, f.b, f.synced⟩
def FM.key (f : FM) : Bs := f.name.data.toList
theorem FM.key_abs (f : FM) : f.abs.name = f.key := rfl
structure FileAt (w : World) (f : FM) : Prop where
  blk : Blk w f.p #[.string f.name, f.v, .int .i64 f.synced] 108
  own : Own w 5 1 f.v f.b.length (f.b.map bv) f.ob

structure Lay (w : World) (d : Nat) (m : MD) (v : Value) (ga : Option Nat) (fs : List FM) : Prop where
  disk : Blk w d #[.int .i64 m.limit, v, .int .i64 m.armed, .bool m.down] 103
  arr : Own w 106 1 v fs.length (fs.map fun f => ptrV f.p) ga
  files : ∀ f ∈ fs, FileAt w f
  abs : m.fs = fs.map FM.abs
  pn : (fs.map FM.p).Nodup
  bn : (fs.filterMap FM.ob).Nodup
  ok : m.Ok

/-- the blocks of a disk -/
def DS (d : Nat) (ga : Option Nat) (fs : List FM) : Nat → Prop := fun b => b = d ∨ ga = some b ∨ ∃ f ∈ fs, b = f.p ∨ f.ob = some b
def DiskRep (w : World) (d : Nat) (m : MD) (S : Nat → Prop) : Prop := ∃ v ga fs, Lay w d m v ga fs ∧ S = DS d ga fs

theorem Blk.unfrozen {w : World} {b : Nat} {cs : Array Value} {e : TypeId} (h : Blk w b cs e) : ∀ i, w.frozen? ⟨b, i, none⟩ = false := h.frozen

theorem FileAt.same {w w' : World} {f : FM} (h : FileAt w f) (hp : w'.heap[f.p]? = w.heap[f.p]?) (ho : ∀ g, f.ob = some g → w'.heap[g]? = w.heap[g]?) : FileAt w' f := ⟨h.blk.same hp, h.own.same ho⟩
theorem FileAt.upd {S : Nat → Prop} {w w' : World} {f : FM} (h : FileAt w f) (hu : Upd S w w') (hp : ¬ S f.p) (ho : ∀ g, f.ob = some g → ¬ S g) : FileAt w' f := ⟨h.blk.upd hu hp, h.own.upd hu ho⟩
theorem Lay.upd {S : Nat → Prop} {w w' : World} {d : Nat} {m : MD} {v : Value} {ga : Option Nat} {fs : List FM} (h : Lay w d m v ga fs) (hu : Upd S w w') (hs : ∀ b, DS d ga fs b → ¬ S b) : Lay w' d m v ga fs :=
  ⟨h.disk.upd hu (hs _ (.inl rfl)), h.arr.upd hu (fun g hg => hs g (.inr (.inl hg))), fun f hf => (h.files f hf).upd hu (hs _ (.inr (.inr ⟨f, hf, .inl rfl⟩))) (fun g hg => hs g (.inr (.inr ⟨f, hf, .inr hg⟩))), h.abs, h.pn, h.bn, h.ok⟩
theorem DiskRep.upd {S T : Nat → Prop} {w w' : World} {d : Nat} {m : MD} (h : DiskRep w d m T) (hu : Upd S w w') (hs : ∀ b, T b → ¬ S b) : DiskRep w' d m T := by
  obtain ⟨v, ga, fs, hl, rfl⟩ := h
  exact ⟨v, ga, fs, hl.upd hu hs, rfl⟩
theorem DiskRep.below {T : Nat → Prop} {w w' : World} {d : Nat} {m : MD} (h : DiskRep w d m T) (hu : Below w.heap.size w w') : DiskRep w' d m T := h.upd (S := NoBlock) (Upd.of_below hu) (fun _ _ h => h)
theorem Lay.lt {w : World} {d : Nat} {m : MD} {v : Value} {ga : Option Nat} {fs : List FM} (h : Lay w d m v ga fs) {b : Nat} (hb : DS d ga fs b) : b < w.heap.size := by
  rcases hb with rfl | hb | ⟨f, hf, rfl | hb⟩
  · exact h.disk.lt
  · exact h.arr.lt _ hb
  · exact (h.files f hf).blk.lt
  · exact (h.files f hf).own.lt _ hb
theorem DiskRep.lt {S : Nat → Prop} {w : World} {d : Nat} {m : MD} (h : DiskRep w d m S) {b : Nat} (hb : S b) : b < w.heap.size := by
  obtain ⟨v, ga, fs, hl, rfl⟩ := h; exact hl.lt hb
theorem DiskRep.ok {S : Nat → Prop} {w : World} {d : Nat} {m : MD} (h : DiskRep w d m S) : m.Ok := by
  obtain ⟨v, ga, fs, hl, rfl⟩ := h; exact hl.ok
/-- no two of the disk's blocks of different kinds are one -/
theorem Lay.rising {w : World} {d : Nat} {m : MD} {v : Value} {ga : Option Nat} {fs : List FM} (h : Lay w d m v ga fs) : Rising FM.key fs := by
  have := h.ok.rising
  rw [h.abs] at this
  exact List.pairwise_map.1 this
theorem Own.blk {w : World} {e : TypeId} {size n : Nat} {v : Value} {xs : List Value} {g : Nat} (h : Own w e size v n xs (some g)) : ∃ cur, Blk w g cur e := by
  rcases h.2 with ⟨_, _, h'⟩ | ⟨g', _, cur, _, h', hb, _⟩
  · cases h'
  · cases h'; exact ⟨cur, hb⟩
theorem Lay.d_ne_arr {w : World} {d : Nat} {m : MD} {v : Value} {ga : Option Nat} {fs : List FM} (h : Lay w d m v ga fs) : ga ≠ some d := by
  intro e; subst e; obtain ⟨cur, hb⟩ := h.arr.blk; exact h.disk.ty hb (by decide) rfl
theorem Lay.d_ne_p {w : World} {d : Nat} {m : MD} {v : Value} {ga : Option Nat} {fs : List FM} (h : Lay w d m v ga fs) {f : FM} (hf : f ∈ fs) : f.p ≠ d := by
  intro e; exact h.disk.ty (h.files f hf).blk (by decide) e.symm
theorem Lay.d_ne_ob {w : World} {d : Nat} {m : MD} {v : Value} {ga : Option Nat} {fs : List FM} (h : Lay w d m v ga fs) {f : FM} (hf : f ∈ fs) : f.ob ≠ some d := by
  intro e; have ho := (h.files f hf).own; rw [e] at ho; obtain ⟨cur, hb⟩ := ho.blk; exact h.disk.ty hb (by decide) rfl
theorem Lay.arr_ne_p {w : World} {d : Nat} {m : MD} {v : Value} {ga : Option Nat} {fs : List FM} (h : Lay w d m v ga fs) {f : FM} (hf : f ∈ fs) : ga ≠ some f.p := by
  intro e; subst e; obtain ⟨cur, hb⟩ := h.arr.blk; exact hb.ty (h.files f hf).blk (by decide) rfl
theorem Lay.arr_ne_ob {w : World} {d : Nat} {m : MD} {v : Value} {ga : Option Nat} {fs : List FM} (h : Lay w d m v ga fs) {f : FM} (hf : f ∈ fs) {g : Nat} (hg : f.ob = some g) : ga ≠ some g := by
  intro e; subst e; obtain ⟨cur, hb⟩ := h.arr.blk; have ho := (h.files f hf).own; rw [hg] at ho; obtain ⟨cur', hb'⟩ := ho.blk; exact hb.ty hb' (by decide) rfl
theorem Lay.p_ne_ob {w : World} {d : Nat} {m : MD} {v : Value} {ga : Option Nat} {fs : List FM} (h : Lay w d m v ga fs) {f f' : FM} (hf : f ∈ fs) (hf' : f' ∈ fs) : f'.ob ≠ some f.p := by
  intro e; have ho := (h.files f' hf').own; rw [e] at ho; obtain ⟨cur, hb⟩ := ho.blk; exact (h.files f hf).blk.ty hb (by decide) rfl

theorem getElem_p {fs : List FM} {k : Nat} (hk : k < fs.length) : fs[k]! = fs[k] := getElem!_pos fs k hk

/-- where a name stands, or would -/
def lbn (fs : List FM) (s : Bs) : Nat := (fs.filter fun f => bl f.key s).length

theorem Own.cellAt {w : World} {e : TypeId} {size n cap g : Nat} {xs : List Value} {ob : Option Nat} (h : Own w e size (.slice (some ⟨g, 0, none⟩) n cap) n xs ob) {j : Nat} {u : Value} (hu : xs[j]? = some u) : w.cell? ⟨g, j, none⟩ = some u := by
  have := h.rd.cell rfl hu
  simpa using this

theorem find_any {w : World} {d : Nat} {m : MD} {v : Value} {ga : Option Nat} {fs : List FM} (h : Lay w d m v ga fs) (s : ByteArray) (hn : fs.length ≤ 1099511627776) :
    Calls Try.prog 107 #[.pointer (some ⟨d, 0, none⟩), .string s] w fun e w' => e = .returned (.tuple #[.int .i64 (lbn fs s.data.toList), .bool (getL FM.key fs s.data.toList).isSome]) ∧ w' = w := by
  have hc1 : w.cell? ⟨d, 1, none⟩ = some v := h.disk.cell 1
  have hr := h.rising
  have ho := h.arr
  have hfs := h.files
  have key : ∀ i : Nat, i ≤ fs.length → (∀ k, k < i → Lib.compareBytes (fs[k]!).name.data.toList s.data.toList < 0) → (∀ k, i ≤ k → k < fs.length → 0 ≤ Lib.compareBytes (fs[k]!).name.data.toList s.data.toList) →
      i = lbn fs s.data.toList ∧ decide (i < fs.length ∧ Lib.compareBytes (fs[i]!).name.data.toList s.data.toList = 0) = (getL FM.key fs s.data.toList).isSome := by
    intro i hi h1 h2
    obtain ⟨c1, c2⟩ := hr.cut s.data.toList i hi (fun k hk hki => by have := h1 k hki; rw [getElem_p hk] at this; exact bl_iff.2 this) (fun k hk hki => by
      have := h2 k hki hk; rw [getElem_p hk] at this
      simp only [bl, decide_eq_false_iff_not]; exact Int.not_lt.2 this)
    refine ⟨?_, ?_⟩
    · have := congrArg List.length c1
      rw [List.length_take] at this
      unfold lbn
      omega
    · rw [Bool.eq_iff_iff]
      simp only [decide_eq_true_eq]
      constructor
      · rintro ⟨hlt, he⟩
        rw [getElem_p hlt] at he
        have : getL FM.key fs s.data.toList = some fs[i] := hr.get_iff.2 ⟨List.getElem_mem hlt, cmp_eq he⟩
        rw [this]; rfl
      · intro hs
        obtain ⟨f, hf⟩ := Option.isSome_iff_exists.1 hs
        obtain ⟨hm, hk⟩ := get_mem hf
        obtain ⟨k, hk', rfl⟩ := List.mem_iff_getElem.1 hm
        have hik : ¬ k < i := fun hki => by
          have := h1 k hki
          rw [getElem_p hk'] at this
          have e : (fs[k]).name.data.toList = s.data.toList := hk
          rw [e] at this
          rw [cmp_self'] at this; omega
        have hki : ¬ i < k := fun hki => by
          have hlt : i < fs.length := by omega
          have hb := List.pairwise_iff_getElem.1 hr i k hlt hk' hki
          rw [hk] at hb
          have := h2 i (Nat.le_refl _) hlt
          rw [getElem_p hlt] at this
          rw [bl_iff] at hb
          exact absurd hb (Int.not_lt.2 this)
        obtain rfl : k = i := by omega
        refine ⟨hk', ?_⟩
        rw [getElem_p hk']
        have e : (fs[k]).name.data.toList = s.data.toList := hk
        rw [e, cmp_self']
  have KEY := Lib.hid key
  rcases ho.2 with ⟨rfl, h0, _⟩ | ⟨g, cap, cur, rfl, _, _⟩
  · have hk := key 0 (Nat.zero_le _) (fun k hk => absurd hk (Nat.not_lt_zero _)) (fun k _ hk => by omega)
    have e1 : lbn fs s.data.toList = 0 := hk.1.symm
    have e2 : (getL FM.key fs s.data.toList).isSome = false := by rw [← hk.2]; simp; omega
    rw [e1, e2]
    clear hk e1 e2 key h0 KEY ho hfs hr h
    go_enter Try.func107, Try.ntmps107
    go_wp2_with (go_at_call 123; refine (bsearch_nil _ _).mono ?_; rintro e w' ⟨rfl, rfl⟩)
    go_ret2
    exact ⟨rfl, rfl⟩
  · have cs : ∀ k, k < fs.length → w.cell? ⟨g, k, none⟩ = some (.pointer (some ⟨(fs[k]!).p, 0, none⟩)) := fun k hk => ho.cellAt (by rw [List.getElem?_map, List.getElem?_eq_getElem hk, getElem_p hk]; rfl)
    have ns : ∀ k, k < fs.length → w.cell? ⟨(fs[k]!).p, 0, none⟩ = some (.string (fs[k]!).name) := fun k hk => by
      rw [getElem_p hk]; exact (hfs _ (List.getElem_mem hk)).blk.cell 0
    have ss : ∀ j k, j < k → k < fs.length → Lib.compareBytes (fs[k]!).name.data.toList s.data.toList < 0 → Lib.compareBytes (fs[j]!).name.data.toList s.data.toList < 0 := fun j k hjk hk hc => by
      have hj : j < fs.length := by omega
      rw [getElem_p hk] at hc
      rw [getElem_p hj]
      exact bl_iff.1 (bl_trans (List.pairwise_iff_getElem.1 hr j k hj hk hjk) (bl_iff.2 hc))
    have CON := Lib.hid (bsearch_any g fs.length cap (fun k => (fs[k]!).p) (fun k => (fs[k]!).name) s w (by omega) cs ns ss)
    clear key cs ns ss ho hr hfs
    go_enter Try.func107, Try.ntmps107
    go_wp2_with (go_at_call 123; refine CON.out.mono ?_; rintro e w' ⟨rfl, i, hi, rfl, h1, h2⟩)
    go_ret2
    have hk := KEY.out i hi h1 h2
    refine ⟨?_, rfl⟩
    exact ret_ib (by rw [hk.1]) (by rw [← hk.2]; simp)
end Go.Proofs.Ytmfobcejnkakpaa
