/- The plain machine: disks: New, Names; names compared. -/
import Derived.Test.YtmfobcejnkakpaaAm27
import Derived.Test.YtmfobcejnkakpaaDisk9
namespace Go.Proofs.Ytmfobcejnkakpaa
set_option linter.unusedVariables false
set_option linter.unusedSimpArgs false
namespace Am
open Go.RowKit
set_option maxRecDepth 100000

noncomputable def n_new : Fn MD := fun _ args h => ar1 args fun n => onI n fun n =>
  bif decide (0 ≤ n) && decide (n ≤ 16777216) then .ret (.tup [.ptr h.n 0, .int .i64 0]) (h.push (.obj (MD.new n))) else .ret (.tup [.nilp, .int .i64 1]) h
theorem new_n : FnOK Try.prog OD 19 n_new := by
  refine ⟨by kernel_rfl, fun {D} hD args h hb {w0 w m φ args'} hs hv => ?_⟩
  obtain ⟨a, rfl⟩ := ar1_ok hb
  obtain ⟨n, rfl⟩ := onI_ok (show onI a _ ≠ .bad from hb)
  obtain ⟨v, rfl, h1⟩ := vrs1 hv
  simp only [VR] at h1
  subst h1
  show Calls Try.prog 19 #[.int .i64 n] w (FPost OD w0 m h (bif decide (0 ≤ n) && decide (n ≤ 16777216) then .ret (.tup [.ptr h.n 0, .int .i64 0]) (h.push (.obj (MD.new n))) else .ret (.tup [.nilp, .int .i64 1]) h))
  cases hc : decide (0 ≤ n) && decide (n ≤ 16777216) with
  | true =>
    have hc : 0 ≤ n ∧ n ≤ 16777216 := by simpa using hc
    refine (new_ok n w hc.1 hc.2).mono fun e w' hd => ?_
    obtain ⟨d, S, rfl, k1, k2, k3⟩ := hd
    have hn := hs.new (c' := .obj (MD.new n)) (q := ⟨d, 0, 0, 0⟩) (S' := S) k2 ⟨rfl, k1⟩ (fun _ => k3)
    refine ⟨_, _, _, fun g hg => by simp [Mu.set]; omega, Nat.le_succ _, hn, ?_, rfl⟩
    simp only [VR, VRs]
    exact ⟨_, rfl, _, _, rfl, ⟨_, Mu.set_self _ _ _, rfl⟩, _, _, rfl, rfl, rfl⟩
  | false =>
    have hc : n < 0 ∨ 16777216 < n := by
      simp at hc
      omega
    refine (new_bad n w hc).mono fun e w' hd => ?_
    exact same_post hs hd (by simp [VR, VRs])

noncomputable def n_names : Fn MD := fun _ args h => ar1 args fun d => onObj h d fun _ x =>
  bif Nat.beq x.fs.length 0 then .ret .semp h else .ret (.slice 1 h.n 0 x.fs.length none) (h.push (.rw (x.fs.map fun f => .str f.name)))
theorem vrs_names {m : Mu} : ∀ l : List MF, VRs m (l.map fun f => .str f.name) (l.map fun f => strV f.name)
  | [] => by simp [VRs]
  | x :: l => by simp only [List.map_cons, VRs]; exact ⟨_, _, rfl, by simp [VR, strV, bsv], vrs_names l⟩
theorem names_n : FnOK Try.prog OD 34 n_names := by
  refine ⟨by kernel_rfl, fun {D} hD args h hb {w0 w m φ args'} hs hv => ?_⟩
  obtain ⟨a, rfl⟩ := ar1_ok hb
  obtain ⟨g, x, rfl, hg, hn, he⟩ := onObj_ok (show onObj h a (fun _ x =>
    bif Nat.beq x.fs.length 0 then .ret .semp h else .ret (.slice 1 h.n 0 x.fs.length none) (h.push (.rw (x.fs.map fun f => .str f.name)))) ≠ .bad from hb)
  obtain ⟨v, rfl, h1⟩ := vrs1 hv
  obtain ⟨p, hp, rfl, hps, hrep⟩ := obj_at hs h1 hg
  refine (names_any hrep hn).mono fun e w' hd => ?_
  show FPost OD w0 m h (onObj h (.ptr g 0) fun _ x =>
    bif Nat.beq x.fs.length 0 then .ret .semp h else .ret (.slice 1 h.n 0 x.fs.length none) (h.push (.rw (x.fs.map fun f => .str f.name)))) e w'
  rw [he]
  obtain ⟨v, ob, rfl, ho, hbw, hfr⟩ := hd
  cases hz : Nat.beq x.fs.length 0 with
  | true =>
    have hz := Nat.eq_of_beq_eq_true hz
    rw [hz] at ho
    exact ⟨m, φ, v, fun _ _ => rfl, Nat.le_refl _, hs.grow hbw, own_semp ho, rfl⟩
  | false =>
    have hz : 0 < x.fs.length := Nat.pos_of_ne_zero fun e => by rw [e] at hz; cases hz
    obtain ⟨q, S', k1, k2⟩ := own_block hs hbw ho hfr (vrs_names x.fs) (by intro a ha; obtain ⟨b, _, rfl⟩ := List.mem_map.1 ha; rfl) hz
    exact ⟨_, _, v, fun g hg => by simp [Mu.set]; omega, Nat.le_succ _, k1, k2, rfl⟩

/-- strings.Compare's own -/
noncomputable def n_cmp : Fn MD := fun _ args h => ar2 args fun a b => onS a fun a => onS b fun b => .ret (.int .i64 (Lib.compareBytes a b)) h
theorem cmp_n : FnOK Try.prog OD 133 n_cmp := by
  refine ⟨by kernel_rfl, fun {D} hD args h hb {w0 w m φ args'} hs hv => ?_⟩
  obtain ⟨a, b, rfl⟩ := ar2_ok hb
  obtain ⟨s, rfl⟩ := onS_ok (show onS a _ ≠ .bad from hb)
  obtain ⟨t, rfl⟩ := onS_ok (show onS b _ ≠ .bad from hb)
  obtain ⟨v, u, rfl, h1, h2⟩ := vrs2 hv
  simp only [VR] at h1 h2
  subst h1; subst h2
  refine (cmpString_any ⟨s.toArray⟩ ⟨t.toArray⟩ w).mono fun e w' hd => ?_
  exact same_post hs hd (by simp [VR])
end Am
end Go.Proofs.Ytmfobcejnkakpaa
