/- known: the states at the cuts. -/
import Derived.Test.YthgcdoahoechhaaKn10a
set_option linter.unusedVariables false
set_option linter.unusedSimpArgs false
namespace Go.Proofs.Ythgcdoahoechhaa
namespace Am
namespace Kn10
open Go.RowKit
set_option maxRecDepth 1000000
def bl (l : List Nat) : List AV := l.map fun n => .int .u8 (.ofNat n)
def i (n : Nat) : AV := .int .i64 (.ofNat n)
def u (n : Nat) : AV := .int .u64 (.ofNat n)
noncomputable def s : Stt MD := ⟨[.bot, .bot, .bot, .bot, .bot, .bot, .bot, .bot, .bot, .bot], 0, []⟩
noncomputable def s0 : Stt MD := ⟨[(.bool true), (.ptr 0 0), (.ptr 2 0), i 0, (.ptr 37 0), (.bool true), i 0, (.bool false), i 0, (.bool false)], 43, [(0, .obj ⟨(Int.ofNat 16777216), (Int.ofNat 0), false, [⟨[108, 105, 115, 116], [0, 0, 13, 255, 255, 242, 2, 0, 0, 3, 0, 0, 1, 0, 0, 4, 0, 0, 5], 19⟩]⟩), (1, .rw [i 3, i 1]), (2, .rw [(.slice 1 1 0 2 (some 2)), i 4, i 5]), (34, .rw [i 3, i 1]), (37, .rw [(.slice 1 34 0 2 none), i 4, i 5])]⟩
end Kn10
end Am
end Go.Proofs.Ythgcdoahoechhaa
