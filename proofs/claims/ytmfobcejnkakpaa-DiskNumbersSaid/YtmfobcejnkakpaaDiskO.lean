/- The disk in plain Lean, further: what holds of it is kept by each call. No program. -/
import Derived.Test.YtmfobcejnkakpaaDiskM
namespace Go.Proofs.Ytmfobcejnkakpaa
set_option linter.unusedVariables false
set_option linter.unusedSimpArgs false
namespace MD

def usedL (l : List MF) : Nat := (l.map fun f => f.b.length).sum
theorem usedL_nil : usedL [] = 0 := rfl
theorem usedL_cons (f : MF) (l : List MF) : usedL (f :: l) = f.b.length + usedL l := by simp [usedL]
theorem usedL_append (l k : List MF) : usedL (l ++ k) = usedL l + usedL k := by simp [usedL]
theorem used_eq (m : MD) : m.used = usedL m.fs := rfl

theorem usedL_split (s : Bs) : ∀ l : List MF, usedL (l.filter fun x => bl x.name s) + usedL (l.filter fun x => bl s x.name) = usedL (dropL MF.name l s)
  | [] => rfl
  | x :: l => by
    have ih := usedL_split s l
    unfold dropL at ih ⊢
    cases h1 : bl x.name s with
    | true =>
      have h2 := bl_asymm h1
      have h3 : (x.name != s) = true := by simpa using bl_ne h1
      simp only [List.filter_cons, h1, h2, h3, if_true, Bool.false_eq_true, if_false, usedL_cons]
      omega
    | false =>
      cases h2 : bl s x.name with
      | true =>
        have h3 : (x.name != s) = true := by simpa using (bl_ne h2).symm
        simp only [List.filter_cons, h1, h2, h3, if_true, Bool.false_eq_true, if_false, usedL_cons]
        omega
      | false =>
        have h3 : (x.name != s) = false := by simpa using bl_total h1 h2
        simp only [List.filter_cons, h1, h2, h3, Bool.false_eq_true, if_false]
        exact ih
theorem usedL_put (l : List MF) (f : MF) : usedL (putL MF.name l f) = usedL (dropL MF.name l f.name) + f.b.length := by
  unfold putL
  rw [usedL_append, usedL_cons, ← usedL_split f.name l]
  omega
theorem drop_none {l : List MF} {s : Bs} (h : ∀ x ∈ l, x.name ≠ s) : dropL MF.name l s = l := by
  unfold dropL; rw [List.filter_eq_self]; intro x hx; simpa using h x hx
theorem set_none {l : List MF} {s : Bs} {g : MF → MF} (h : ∀ x ∈ l, x.name ≠ s) : setL MF.name l s g = l := by
  unfold setL; conv => rhs; rw [← List.map_id l]
  apply List.map_congr_left; intro x hx; rw [if_neg (h x hx)]; rfl
theorem usedL_set {l : List MF} (hl : Rising MF.name l) {s : Bs} {f : MF} (hf : getL MF.name l s = some f) (g : MF → MF) :
    usedL (setL MF.name l s g) = usedL (dropL MF.name l s) + (g f).b.length := by
  induction l with
  | nil => simp [getL] at hf
  | cons x l ih =>
    have hp := List.pairwise_cons.1 hl
    by_cases hx : x.name = s
    · have hnone : ∀ y ∈ l, y.name ≠ s := fun y hy e => by
        have := bl_ne (hp.1 y hy); rw [hx, e] at this; exact this rfl
      have e1 : x = f := by simpa [getL, hx] using hf
      have e2 : dropL MF.name (x :: l) s = l := by
        have := drop_none hnone
        unfold dropL at this ⊢
        simp [List.filter_cons, hx, this]
      have e3 : setL MF.name (x :: l) s g = g x :: l := by
        have := set_none (g := g) hnone
        unfold setL at this ⊢
        simp [hx, this]
      rw [e2, e3, usedL_cons, e1]; omega
    · have hf' : getL MF.name l s = some f := by
        have : (x.name == s) = false := by simpa using hx
        simpa [getL, List.find?_cons, this] using hf
      have := ih hp.2 hf'
      have e2 : dropL MF.name (x :: l) s = x :: dropL MF.name l s := by
        have : (x.name != s) = true := by simpa using hx
        simp [dropL, List.filter_cons, this]
      have e3 : setL MF.name (x :: l) s g = x :: setL MF.name l s g := by simp [setL, hx]
      rw [e2, e3, usedL_cons, usedL_cons, this]; omega
theorem usedL_drop {l : List MF} (hl : Rising MF.name l) {s : Bs} {f : MF} (hf : getL MF.name l s = some f) : usedL l = usedL (dropL MF.name l s) + f.b.length := by
  have := usedL_set hl hf id
  have e : setL MF.name l s id = l := by
    unfold setL; conv => rhs; rw [← List.map_id l]
    apply List.map_congr_left; intro x _; split <;> rfl
  rw [e] at this
  exact this
theorem usedL_drop_le (l : List MF) (s : Bs) : usedL (dropL MF.name l s) ≤ usedL l := by
  induction l with
  | nil => exact Nat.le_refl _
  | cons x l ih =>
    unfold dropL at ih ⊢
    rw [List.filter_cons]
    split
    · rw [usedL_cons, usedL_cons]; omega
    · rw [usedL_cons]; omega

theorem count_fs (m : MD) : m.count.fs = m.fs := by unfold count; split <;> rfl
theorem count_limit (m : MD) : m.count.limit = m.limit := by unfold count; split <;> rfl
theorem count_used (m : MD) : m.count.used = m.used := by unfold used; rw [count_fs]
theorem Ok.count {m : MD} (h : Ok m) : Ok m.count := by
  obtain ⟨h1, h2, h3, h4, h5, h6, h7, h8, h9⟩ := h
  unfold MD.count
  split
  · exact ⟨h1, h2, by simp; omega, by simp; omega, by simp, h6, h7, h8, h9⟩
  · exact ⟨h1, h2, h3, h4, h5, h6, h7, h8, h9⟩
/-- other files, the rest as it was -/
theorem Ok.files {m : MD} (h : Ok m) (fs : List MF) (h1 : Rising MF.name fs) (h2 : (usedL fs : Int) ≤ m.limit) (h3 : ∀ f ∈ fs, right f.name = true) (h4 : ∀ f ∈ fs, f.synced ≤ f.b.length) : Ok { m with fs := fs } :=
  ⟨h.lim0, h.lim1, h.arm0, h.arm1, h.down, h1, h2, h3, h4⟩
theorem Ok.fill {m : MD} (h : Ok m) : (MD.usedL m.fs : Int) ≤ m.limit := h.room
theorem mem_set {l : List MF} {s : Bs} {g : MF → MF} {x : MF} (h : x ∈ setL MF.name l s g) : (x ∈ l ∧ x.name ≠ s) ∨ ∃ y ∈ l, y.name = s ∧ x = g y := by
  unfold setL at h
  obtain ⟨y, hy, rfl⟩ := List.mem_map.1 h
  by_cases e : y.name = s
  · exact .inr ⟨y, hy, e, by rw [if_pos e]⟩
  · left; rw [if_neg e]; exact ⟨hy, e⟩
theorem Ok.set {m : MD} (h : Ok m) {s : Bs} {f : MF} (hf : m.get s = some f) (g : MF → MF) (hn : ∀ x, (g x).name = x.name) (hb : (m.used : Int) + (g f).b.length ≤ m.limit + f.b.length) (hs : ∀ x, x ∈ m.fs → (g x).synced ≤ (g x).b.length) : Ok { m with fs := setL MF.name m.fs s g } := by
  refine h.files _ (h.rising.set s g hn) ?_ ?_ ?_
  · have h1 := usedL_set h.rising hf g
    have h2 := usedL_drop h.rising hf
    rw [used_eq] at hb
    omega
  · intro x hx
    rcases mem_set hx with ⟨hx, _⟩ | ⟨y, hy, _, rfl⟩
    · exact h.names x hx
    · rw [hn]; exact h.names y hy
  · intro x hx
    rcases mem_set hx with ⟨hx, _⟩ | ⟨y, hy, _, rfl⟩
    · exact h.synced x hx
    · exact hs y hy
theorem Ok.put {m : MD} (h : Ok m) (f : MF) (hn : right f.name = true) (hb : (MD.usedL (dropL MF.name m.fs f.name) : Int) + f.b.length ≤ m.limit) (hs : f.synced ≤ f.b.length) : Ok { m with fs := putL MF.name m.fs f } := by
  refine h.files _ (h.rising.put f) (by rw [usedL_put]; omega) ?_ ?_
  · intro x hx
    rcases mem_put.1 hx with rfl | ⟨hx, _⟩
    · exact hn
    · exact h.names x hx
  · intro x hx
    rcases mem_put.1 hx with rfl | ⟨hx, _⟩
    · exact hs
    · exact h.synced x hx
theorem Ok.drop {m : MD} (h : Ok m) (s : Bs) : Ok { m with fs := dropL MF.name m.fs s } :=
  h.files _ (h.rising.drop s) (by have := usedL_drop_le m.fs s; have := h.fill; omega) (fun x hx => h.names x (mem_drop.1 hx).1) (fun x hx => h.synced x (mem_drop.1 hx).1)
theorem get_count (m : MD) (s : Bs) : m.count.get s = m.get s := by unfold get; rw [count_fs]
theorem Ok.create {m : MD} (h : Ok m) (s : Bs) : Ok (m.create s).2 := by
  unfold MD.create
  split
  · exact h
  · split
    · exact h.count
    · rename_i h1 h2
      have hc := h.count
      exact hc.put ⟨s, [], 0⟩ (by simpa using h1) (by have h1 := usedL_drop_le m.count.fs s; have h2 := hc.fill; simp only [List.length_nil]; omega) (Nat.le_refl _)
theorem Ok.append {m : MD} (h : Ok m) (s b : Bs) : Ok (m.append s b).2 := by
  unfold MD.append
  cases hg : m.get s with
  | none => exact h
  | some f =>
    dsimp only
    split
    · exact h.count
    · rename_i h1
      have hc := h.count
      have := hc.set (s := s) (f := f) (by rw [get_count]; exact hg) (fun f => { f with b := f.b ++ b }) (fun _ => rfl) (by rw [count_used, count_limit]; simp; simp at h1; omega) (fun x hx => by
        have := hc.synced x hx; simp; omega)
      rw [count_fs] at this
      exact this
theorem Ok.sync {m : MD} (h : Ok m) (s : Bs) : Ok (m.sync s).2 := by
  unfold MD.sync
  cases hg : m.get s with
  | none => exact h
  | some f =>
    dsimp only
    split
    · exact h.count
    · have hc := h.count
      have hr := hc.room
      have := hc.set (s := s) (f := f) (by rw [get_count]; exact hg) (fun f => { f with synced := f.b.length }) (fun _ => rfl) (by simp; omega) (fun x hx => by simp)
      rw [count_fs] at this
      exact this
theorem Ok.cut {m : MD} (h : Ok m) (s : Bs) (n : Int) : Ok (m.cut s n).2 := by
  unfold MD.cut
  cases hg : m.get s with
  | none => exact h
  | some f =>
    dsimp only
    split
    · exact h
    · split
      · exact h.count
      · rename_i h1 _
        have hc := h.count
        have hr := hc.room
        refine (show Ok { m.count with fs := setL MF.name m.fs s fun f => { f with b := f.b.take n.toNat, synced := n.toNat } } from ?_)
        have hf := get_mem (key := MF.name) hg
        -- only this one file is called so
        have e : setL MF.name m.fs s (fun f => { f with b := f.b.take n.toNat, synced := n.toNat }) = setL MF.name m.fs s (fun f' => { f' with b := f'.b.take n.toNat, synced := min n.toNat f'.b.length }) := by
          unfold setL
          apply List.map_congr_left
          intro x hx
          split
          · rename_i e
            have : getL MF.name m.fs s = some x := (h.rising.get_iff).2 ⟨hx, e⟩
            have hxf : x = f := by
              have hg' : getL MF.name m.fs s = some f := hg
              rw [hg'] at this; exact (Option.some.inj this).symm
            subst hxf
            have : min n.toNat x.b.length = n.toNat := Nat.min_eq_left (by omega)
            simp only [this]
          · rfl
        rw [e]
        have := hc.set (s := s) (f := f) (by rw [get_count]; exact hg) (fun f' => { f' with b := f'.b.take n.toNat, synced := min n.toNat f'.b.length }) (fun _ => rfl) (by simp; omega) (fun x hx => by simp)
        rw [count_fs] at this
        exact this
theorem Ok.rename {m : MD} (h : Ok m) (a c : Bs) : Ok (m.rename a c).2 := by
  unfold MD.rename
  cases hg : m.get a with
  | none => exact h
  | some f =>
    dsimp only
    split
    · exact h
    · split
      · exact h.count
      · rename_i h1 _
        have hd := h.count.drop a
        have hu := usedL_drop h.count.rising (s := a) (f := f) (by rw [count_fs]; exact hg)
        have hr := h.count.room
        have hle := usedL_drop_le (dropL MF.name m.count.fs a) c
        have hf := get_mem (key := MF.name) hg
        rw [used_eq] at hr
        have := hd.put { f with name := c } (by simpa using h1) (by simp only [count_fs] at *; omega) (h.synced f hf.1)
        simp only [count_fs] at this
        exact this
theorem Ok.remove {m : MD} (h : Ok m) (s : Bs) : Ok (m.remove s).2 := by
  unfold MD.remove
  cases hg : m.get s with
  | none => exact h
  | some f =>
    dsimp only
    split
    · exact h.count
    · have := h.count.drop s
      rw [count_fs] at this
      exact this
theorem Ok.arm {m : MD} (h : Ok m) (n : Int) (hn : n ≤ 9223372036854775807) : Ok (m.arm n) := by
  unfold MD.arm
  split
  · exact h
  · rename_i hd
    exact ⟨h.lim0, h.lim1, by simp; omega, by simp; omega, fun h' => absurd h' hd, h.rising, h.room, h.names, h.synced⟩
theorem kept_le {keep : Int} {f : MF} (h : f.synced ≤ f.b.length) : kept keep f ≤ f.b.length := by unfold kept; omega
theorem Ok.crash {m : MD} (h : Ok m) (keep : Int) : Ok (m.crash keep) := by
  have hu : ∀ l : List MF, usedL (l.map fun f => { f with b := f.b.take (kept keep f), synced := kept keep f }) ≤ usedL l := by
    intro l
    induction l with
    | nil => exact Nat.le_refl _
    | cons x l ih => rw [List.map_cons, usedL_cons, usedL_cons]; simp; omega
  refine ⟨h.lim0, h.lim1, by simp [MD.crash], by simp [MD.crash], fun h' => by simp [MD.crash] at h', ?_, ?_, ?_, ?_⟩
  · exact h.rising.of_keys (by simp [MD.crash, Function.comp_def])
  · have := hu m.fs
    have := h.fill
    show (MD.usedL _ : Int) ≤ m.limit
    simp only [MD.crash] at *
    omega
  · intro f hf
    obtain ⟨x, hx, rfl⟩ := List.mem_map.1 hf
    exact h.names x hx
  · intro f hf
    obtain ⟨x, hx, rfl⟩ := List.mem_map.1 hf
    have := kept_le (keep := keep) (h.synced x hx)
    simp; omega
theorem Ok.grow {m : MD} (h : Ok m) (n : Int) : Ok (m.grow n).2 := by
  unfold MD.grow
  split
  · exact h
  · rename_i h1
    exact ⟨by simp; omega, by simp; omega, h.arm0, h.arm1, h.down, h.rising, by show (m.used : Int) ≤ n; omega, h.names, h.synced⟩
theorem Ok.new {n : Int} (h0 : 0 ≤ n) (h1 : n ≤ 16777216) : Ok (MD.new n) :=
  ⟨h0, h1, by simp [MD.new], by simp [MD.new], by simp [MD.new], by simp [MD.new, Rising], by simpa [MD.new, used] using h0, by simp [MD.new], by simp [MD.new]⟩
end MD
end Go.Proofs.Ytmfobcejnkakpaa
