/- known: the states at the cuts. -/
import Derived.Test.YthgcdoahoechhaaKn5a
set_option linter.unusedVariables false
set_option linter.unusedSimpArgs false
namespace Go.Proofs.Ythgcdoahoechhaa
namespace Am
namespace Kn5
open Go.RowKit
set_option maxRecDepth 1000000
def bl (l : List Nat) : List AV := l.map fun n => .int .u8 (.ofNat n)
def i (n : Nat) : AV := .int .i64 (.ofNat n)
def u (n : Nat) : AV := .int .u64 (.ofNat n)
noncomputable def s : Stt MD := ⟨[.bot, .bot, .bot, .bot, .bot, .bot, .bot, .bot], 0, []⟩
noncomputable def s0 : Stt MD := ⟨[(.bool true), (.ptr 0 0), (.ptr 1 0), (.slice 1 56 0 1 none), i 0, (.ptr 57 0), (.bool false), (.bool false)], 58, [(0, .obj ⟨(Int.ofNat 16777216), (Int.ofNat 0), false, [⟨[119, 48], [0, 0, 7, 255, 255, 248, 0, 1, 1, 1, 97, 0, 0], 13⟩]⟩), (1, .rw [(.ptr 0 0), (.str [119, 48]), i 2]), (42, .rw [(.int .u8 (Int.ofNat 97))]), (45, .rw []), (47, .rw [(.slice 1 42 0 1 none), (.slice 1 45 0 0 (some 0)), (.bool false)]), (56, .rw [(.slice 3 47 0 1 none)]), (57, .rw [(.ptr 0 0), (.str [119, 48]), i 1])]⟩
end Kn5
end Am
end Go.Proofs.Ythgcdoahoechhaa
