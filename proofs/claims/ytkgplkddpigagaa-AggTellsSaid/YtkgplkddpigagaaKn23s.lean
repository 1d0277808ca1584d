/- known: the states at the cuts. -/
import Derived.Test.YtkgplkddpigagaaKn23a
set_option linter.unusedVariables false
set_option linter.unusedSimpArgs false
namespace Go.Proofs.Ytkgplkddpigagaa
namespace Am
namespace Kn23
open Go.RowKit
set_option maxRecDepth 1000000
def bl (l : List Nat) : List AV := l.map fun n => .int .u8 (.ofNat n)
def i (n : Nat) : AV := .int .i64 (.ofNat n)
def u (n : Nat) : AV := .int .u64 (.ofNat n)
noncomputable def s : Stt Empty := ⟨[.bot, .bot, .bot, .bot, .bot, .bot], 0, []⟩
noncomputable def s0 : Stt Empty := ⟨[(.bool true), (.slice 3 0 0 2 (some 2)), (.slice 3 1 0 1 (some 1)), (.slice 3 236 0 3 none), i 0, i 1], 237, [(0, .rw [i 0, i 0, i 1, i 10, i 10, i 1]), (1, .rw [i 5, i 1, i 1]), (236, .rw [i 0, i 0, i 1, i 5, i 6, i 1, i 10, i 10, i 1])]⟩
end Kn23
end Am
end Go.Proofs.Ytkgplkddpigagaa
