/- The plain machine: a law without arguments, out of a run in pieces. -/
import Derived.Test.YtmfobcejnkakpaaAm24
namespace Go.Proofs.Ytmfobcejnkakpaa
set_option linter.unusedVariables false
set_option linter.unusedSimpArgs false
namespace Am
open Go.RowKit
set_option maxRecDepth 10000
variable {P : Program}

/-- no things of models -/
def O0 : Objs := { X := Empty, rep := fun x => x.elim, lt := fun {x} => x.elim, keep := fun {x} => x.elim }
def bots (keep : List Nat) : List AV := keep.map fun _ => .bot
noncomputable def h0 {X : Type} : Hp X := ⟨.nil, 0⟩
theorem sr_h0 (O : Objs) (W : World) : SR O W W (fun _ => none) (fun _ _ => False) h0 :=
  ⟨Below.refl _ _, (fun g c hg p hp => by cases hp), (fun g g' c c' _ _ _ _ _ hi => by cases hi), (fun g c _ _ hi => by cases hi), (fun g p hp => by cases hp)⟩
theorem closed_law {O : Objs} {f : Nat} {keep : List Nat} {B : BF} (hB : bfOf P (drOf P) f keep = some B) {t1 : List AV} {h1 : Hp O.X} (hE : EvB P O keep B.nt B.body (bots keep) h0 (.ret t1 h1)) (hr : resV t1 h1 B.res = some [.bool true]) (W : World) :
    Calls P f #[] W fun e W' => e = .returned (.bool true) ∧ Below W.heap.size W W' := by
  unfold bfOf at hB
  split at hB
  case h_2 => cases hB
  rename_i fn hfn
  split at hB
  case h_2 => cases hB
  rename_i c hc
  split at hB
  case h_2 => cases hB
  rename_i bb rs h1' h2'
  split at hB
  case isFalse => cases hB
  rename_i hchk
  cases hB
  rw [Bool.and_eq_true, Bool.and_eq_true] at hchk
  obtain ⟨⟨k1, k2⟩, k3⟩ := hchk
  refine calls_of_wp hfn hc ?_
  have hfr : FR (fun _ => none) keep fn.ntmps [] (bots keep) { tmps := (#[] : Array Value) ++ Array.replicate (fn.ntmps - (#[] : Array Value).size) undef, defers := [] } := by
    refine ⟨by simp, by simp [bots], nodup_ok k2, fun d _ => by simp [lookE, VR], fun i d hi => ?_⟩
    have : ∀ (l : List Nat) (i : Nat), getS (bots l) i = .bot := by
      intro l
      induction l with
      | nil => intro i; rfl
      | cons x l ih => intro i; cases i with | zero => rfl | succ i => exact ih i
    rw [this]
    simp [VR]
  have hst : ST O W keep fn.ntmps [] (fun _ => none) 0 [] (bots keep) h0 { tmps := (#[] : Array Value) ++ Array.replicate (fn.ntmps - (#[] : Array Value).size) undef, defers := [] } W := ⟨_, _, fun _ _ => rfl, Nat.le_refl _, sr_h0 O W, hfr, rfl⟩
  refine wp_mono (hE c h1' W [] _ 0 _ W hst) fun ex a' w' hq => ?_
  obtain ⟨rfl, m', φ', g1, g2, g3, g4, g5⟩ := hq
  obtain ⟨v', q1, q2⟩ := results_ok g3 g4 (rss_comp h2') hr
  have hv : v' = .bool true := by simpa [packA, VR] using q1
  subst hv
  exact ⟨g5, _, q2, rfl, g3.below⟩
end Am
end Go.Proofs.Ytmfobcejnkakpaa
