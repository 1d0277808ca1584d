/- Layer 23: series that are alike; series that a law lays. -/
import Derived.Test.YtkgplkddpigagaaQaS
set_option linter.unusedVariables false
set_option linter.unusedSimpArgs false
namespace Go.Proofs.Ytkgplkddpigagaa
namespace Am
open Go.RowKit
set_option maxRecDepth 100000
theorem sc_inj {a b : SM} (h1 : a.t = b.t) (h2 : a.q.1 = b.q.1) (h3 : a.q.2 = b.q.2) : a = b := by
  obtain ⟨t, p, q⟩ := a
  obtain ⟨t', p', q'⟩ := b
  simp only at h1 h2 h3
  subst h1 h2 h3
  rfl
instance : DecidableEq SM := fun a b => if h : a.t = b.t ∧ a.q.1 = b.q.1 ∧ a.q.2 = b.q.2 then .isTrue (sc_inj h.1 h.2.1 h.2.2) else .isFalse (fun e => h (by subst e; exact ⟨rfl, rfl, rfl⟩))
end Am
end Go.Proofs.Ytkgplkddpigagaa
