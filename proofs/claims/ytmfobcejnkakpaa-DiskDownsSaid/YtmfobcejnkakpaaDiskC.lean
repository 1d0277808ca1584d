/- The disk in plain Lean while power stays: what each call does to names, bytes and room. No program. -/
import Derived.Test.YtmfobcejnkakpaaDiskO
namespace Go.Proofs.Ytmfobcejnkakpaa
set_option linter.unusedVariables false
set_option linter.unusedSimpArgs false
namespace MD

/-- power is there, and no call counts -/
structure Calm (L : Int) (m : MD) : Prop where
  ok : Ok m
  limit : m.limit = L
  armed : m.armed = 0
  up : m.down = false
def size (m : MD) (s : Bs) : Nat := match m.get s with | none => 0 | some f => f.b.length

theorem Calm.count {L : Int} {m : MD} (h : Calm L m) : m.count = m := by unfold MD.count; rw [h.armed]; rfl
theorem Calm.new {L : Int} (h0 : 0 ≤ L) (h1 : L ≤ 16777216) : Calm L (MD.new L) := ⟨Ok.new h0 h1, rfl, rfl, rfl⟩
theorem new_used (L : Int) : (MD.new L).used = 0 := rfl
theorem used_drop {m : MD} (h : Ok m) (s : Bs) : usedL (dropL MF.name m.fs s) + m.size s = m.used := by
  unfold size MD.get
  cases hg : getL MF.name m.fs s with
  | none => rw [drop_none (get_none.1 hg)]; rfl
  | some f => rw [used_eq, usedL_drop h.rising hg]
theorem length_put (l : List MF) (f : MF) : (putL MF.name l f).length ≤ l.length + 1 := by
  unfold putL
  have h1 : ∀ l : List MF, (l.filter fun x => bl x.name f.name).length + (l.filter fun x => bl f.name x.name).length ≤ l.length := by
    intro l
    induction l with
    | nil => exact Nat.le_refl _
    | cons x l ih =>
      simp only [List.filter_cons, List.length_cons]
      cases h : bl x.name f.name with
      | true => simp [bl_asymm h]; omega
      | false =>
        cases h2 : bl f.name x.name with
        | true => simp; omega
        | false => simp; omega
  have := h1 l
  simp
  omega
theorem length_drop (l : List MF) (s : Bs) : (dropL MF.name l s).length ≤ l.length := List.length_filter_le ..
theorem length_set (l : List MF) (s : Bs) (g : MF → MF) : (setL MF.name l s g).length = l.length := by simp [setL]

theorem Calm.create {L : Int} {m : MD} (h : Calm L m) {s : Bs} (hs : right s = true) :
    ∃ m', m.create s = (0, m') ∧ Calm L m' ∧ m'.used + m.size s = m.used ∧ m'.get s = some ⟨s, [], 0⟩ ∧ (∀ t, t ≠ s → m'.get t = m.get t) ∧ m'.fs.length ≤ m.fs.length + 1 := by
  have e : m.create s = (0, { m with fs := putL MF.name m.fs ⟨s, [], 0⟩ }) := by
    unfold MD.create; rw [h.count, if_neg (by rw [hs]; decide), if_neg (by rw [h.up]; decide)]
  have ok := h.ok.create s
  rw [e] at ok
  refine ⟨_, e, ⟨ok, h.limit, h.armed, h.up⟩, ?_, ?_, fun t ht => ?_, length_put ..⟩
  · rw [used_eq]
    show usedL (putL MF.name m.fs ⟨s, [], 0⟩) + _ = _
    rw [usedL_put]
    exact used_drop h.ok s
  · show getL MF.name (putL MF.name m.fs _) s = _
    rw [h.ok.rising.get_put, if_pos rfl]
  · show getL MF.name (putL MF.name m.fs _) t = _
    rw [h.ok.rising.get_put, if_neg ht]; rfl

theorem Calm.append {L : Int} {m : MD} (h : Calm L m) {s b : Bs} {f : MF} (hf : m.get s = some f) (hb : (m.used : Int) + b.length ≤ L) :
    ∃ m', m.append s b = (0, m') ∧ Calm L m' ∧ m'.used = m.used + b.length ∧ m'.get s = some { f with b := f.b ++ b } ∧ (∀ t, t ≠ s → m'.get t = m.get t) ∧ m'.fs.length = m.fs.length := by
  have e : m.append s b = (0, { m with fs := setL MF.name m.fs s fun f => { f with b := f.b ++ b } }) := by
    unfold MD.append; rw [hf, h.count]
    simp only
    rw [if_neg (by rw [h.limit, h.up]; simp; omega), if_neg (by rw [h.up]; decide)]
  have ok := h.ok.append s b
  rw [e] at ok
  refine ⟨_, e, ⟨ok, h.limit, h.armed, h.up⟩, ?_, ?_, fun t ht => ?_, length_set ..⟩
  · have := usedL_set h.ok.rising hf fun f => { f with b := f.b ++ b }
    have hu := usedL_drop h.ok.rising hf
    rw [used_eq, used_eq]
    simp at this
    show usedL (setL MF.name m.fs s _) = _
    omega
  · show getL MF.name (setL MF.name m.fs s _) s = _
    rw [get_set m.fs s (fun f => { f with b := f.b ++ b }) (fun _ => rfl), show getL MF.name m.fs s = some f from hf]
    simp
  · show getL MF.name (setL MF.name m.fs s _) t = _
    rw [get_set m.fs s (fun f => { f with b := f.b ++ b }) (fun _ => rfl)]
    simp [ht, MD.get]

theorem Calm.append_full {L : Int} {m : MD} (h : Calm L m) {s b : Bs} {f : MF} (hf : m.get s = some f) (hb : L < (m.used : Int) + b.length) : m.append s b = (13, m) := by
  unfold MD.append; rw [hf, h.count]
  simp only
  rw [if_pos (.inr (by rw [h.limit]; omega))]
theorem append_gone {m : MD} {s b : Bs} (hf : m.get s = none) : m.append s b = (22, m) := by unfold MD.append; rw [hf]

theorem Calm.sync {L : Int} {m : MD} (h : Calm L m) {s : Bs} {f : MF} (hf : m.get s = some f) :
    ∃ m', m.sync s = (0, m') ∧ Calm L m' ∧ m'.used = m.used ∧ m'.get s = some { f with synced := f.b.length } ∧ (∀ t, t ≠ s → m'.get t = m.get t) ∧ m'.fs.length = m.fs.length := by
  have e : m.sync s = (0, { m with fs := setL MF.name m.fs s fun f => { f with synced := f.b.length } }) := by
    unfold MD.sync; rw [hf, h.count]; simp only; rw [if_neg (by rw [h.up]; decide)]
  have ok := h.ok.sync s
  rw [e] at ok
  refine ⟨_, e, ⟨ok, h.limit, h.armed, h.up⟩, ?_, ?_, fun t ht => ?_, length_set ..⟩
  · have := usedL_set h.ok.rising hf fun f => { f with synced := f.b.length }
    have hu := usedL_drop h.ok.rising hf
    rw [used_eq, used_eq]
    simp at this
    show usedL (setL MF.name m.fs s _) = _
    omega
  · show getL MF.name (setL MF.name m.fs s _) s = _
    rw [get_set m.fs s (fun f => { f with synced := f.b.length }) (fun _ => rfl), show getL MF.name m.fs s = some f from hf]
    simp
  · show getL MF.name (setL MF.name m.fs s _) t = _
    rw [get_set m.fs s (fun f => { f with synced := f.b.length }) (fun _ => rfl)]
    simp [ht, MD.get]

theorem Calm.cut {L : Int} {m : MD} (h : Calm L m) {s : Bs} {f : MF} (hf : m.get s = some f) (n : Nat) (hn : n ≤ f.b.length) :
    ∃ m', m.cut s n = (0, m') ∧ Calm L m' ∧ m'.used + f.b.length = m.used + n ∧ m'.get s = some { f with b := f.b.take n, synced := n } ∧ (∀ t, t ≠ s → m'.get t = m.get t) ∧ m'.fs.length = m.fs.length := by
  have e : m.cut s n = (0, { m with fs := setL MF.name m.fs s fun f => { f with b := f.b.take n, synced := n } }) := by
    unfold MD.cut; rw [hf, h.count]
    simp only
    rw [if_neg (by omega), if_neg (by rw [h.up]; decide)]
    rfl
  have ok := h.ok.cut s n
  rw [e] at ok
  refine ⟨_, e, ⟨ok, h.limit, h.armed, h.up⟩, ?_, ?_, fun t ht => ?_, length_set ..⟩
  · have := usedL_set h.ok.rising hf fun f => { f with b := f.b.take n, synced := n }
    have hu := usedL_drop h.ok.rising hf
    rw [used_eq, used_eq]
    simp at this
    show usedL (setL MF.name m.fs s _) + _ = _
    omega
  · show getL MF.name (setL MF.name m.fs s _) s = _
    rw [get_set m.fs s (fun f => { f with b := f.b.take n, synced := n }) (fun _ => rfl), show getL MF.name m.fs s = some f from hf]
    simp
  · show getL MF.name (setL MF.name m.fs s _) t = _
    rw [get_set m.fs s (fun f => { f with b := f.b.take n, synced := n }) (fun _ => rfl)]
    simp [ht, MD.get]

theorem Calm.rename {L : Int} {m : MD} (h : Calm L m) {a c : Bs} {f : MF} (hf : m.get a = some f) (hc : right c = true) :
    ∃ m', m.rename a c = (0, m') ∧ Calm L m' ∧ m'.used ≤ m.used ∧ m'.get c = some { f with name := c } ∧ (a ≠ c → m'.get a = none) ∧ (∀ t, t ≠ a → t ≠ c → m'.get t = m.get t) ∧ m'.fs.length ≤ m.fs.length := by
  have e : m.rename a c = (0, { m with fs := putL MF.name (dropL MF.name m.fs a) { f with name := c } }) := by
    unfold MD.rename; rw [hf, h.count]; simp only; rw [if_neg (by rw [hc]; decide), if_neg (by rw [h.up]; decide)]
  have ok := h.ok.rename a c
  rw [e] at ok
  have hu := usedL_drop h.ok.rising hf
  have hr := h.ok.rising.drop a
  refine ⟨_, e, ⟨ok, h.limit, h.armed, h.up⟩, ?_, ?_, fun hac => ?_, fun t ht htc => ?_, ?_⟩
  · rw [used_eq, used_eq]
    show usedL (putL MF.name _ _) ≤ _
    rw [usedL_put]
    have := usedL_drop_le (dropL MF.name m.fs a) c
    simp only
    omega
  · show getL MF.name (putL MF.name _ _) c = _
    rw [hr.get_put, if_pos rfl]
  · show getL MF.name (putL MF.name _ _) a = _
    rw [hr.get_put, if_neg hac, h.ok.rising.get_drop, if_pos rfl]
  · show getL MF.name (putL MF.name _ _) t = _
    rw [hr.get_put, if_neg htc, h.ok.rising.get_drop, if_neg ht]; rfl
  · have h1 := length_put (dropL MF.name m.fs a) { f with name := c }
    have h2 : (dropL MF.name m.fs a).length < m.fs.length := by
      unfold dropL
      rw [← List.countP_eq_length_filter]
      have hm := get_mem hf
      rcases Nat.lt_or_ge (List.countP (fun x : MF => x.name != a) m.fs) m.fs.length with h | h
      · exact h
      · have := List.countP_eq_length.1 (Nat.le_antisymm List.countP_le_length h) f hm.1
        simp [hm.2] at this
    show (putL MF.name _ _).length ≤ _
    omega

theorem Calm.remove {L : Int} {m : MD} (h : Calm L m) {s : Bs} {f : MF} (hf : m.get s = some f) :
    ∃ m', m.remove s = (0, m') ∧ Calm L m' ∧ m'.used + f.b.length = m.used ∧ m'.get s = none ∧ (∀ t, t ≠ s → m'.get t = m.get t) ∧ m'.fs.length ≤ m.fs.length := by
  have e : m.remove s = (0, { m with fs := dropL MF.name m.fs s }) := by
    unfold MD.remove; rw [hf, h.count]; simp only; rw [if_neg (by rw [h.up]; decide)]
  have ok := h.ok.remove s
  rw [e] at ok
  refine ⟨_, e, ⟨ok, h.limit, h.armed, h.up⟩, (usedL_drop h.ok.rising hf).symm, ?_, fun t ht => ?_, length_drop ..⟩
  · show getL MF.name (dropL MF.name m.fs s) s = _
    rw [h.ok.rising.get_drop, if_pos rfl]
  · show getL MF.name (dropL MF.name m.fs s) t = _
    rw [h.ok.rising.get_drop, if_neg ht]; rfl
theorem remove_gone {m : MD} {s : Bs} (hf : m.get s = none) : m.remove s = (22, m) := by unfold MD.remove; rw [hf]
theorem Calm.grow {L : Int} {m : MD} (h : Calm L m) {n : Int} (h0 : (m.used : Int) ≤ n) (h1 : n ≤ 16777216) : m.grow n = (true, { m with limit := n }) ∧ Calm n { m with limit := n } := by
  have e : m.grow n = (true, { m with limit := n }) := by unfold MD.grow; rw [if_neg (by omega)]
  have ok := h.ok.grow n
  rw [e] at ok
  exact ⟨e, ok, rfl, h.armed, h.up⟩
theorem grow_less {m : MD} {n : Int} (h0 : n < m.used) : m.grow n = (false, m) := by unfold MD.grow; rw [if_pos (.inl h0)]
end MD
end Go.Proofs.Ytmfobcejnkakpaa
