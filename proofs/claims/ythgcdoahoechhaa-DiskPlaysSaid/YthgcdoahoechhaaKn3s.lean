/- known: the states at the cuts. -/
import Derived.Test.YthgcdoahoechhaaKn3a
set_option linter.unusedVariables false
set_option linter.unusedSimpArgs false
namespace Go.Proofs.Ythgcdoahoechhaa
namespace Am
namespace Kn3
open Go.RowKit
set_option maxRecDepth 1000000
def bl (l : List Nat) : List AV := l.map fun n => .int .u8 (.ofNat n)
def i (n : Nat) : AV := .int .i64 (.ofNat n)
def u (n : Nat) : AV := .int .u64 (.ofNat n)
noncomputable def s : Stt MD := ⟨[.bot, .bot, .bot, .bot, .bot, .bot], 0, []⟩
noncomputable def s0 : Stt MD := ⟨[(.bool true), (.ptr 0 0), i 0, (.slice 1 2 0 1 none), (.bool true), (.bool false)], 3, [(0, .obj ⟨(Int.ofNat 100), (Int.ofNat 0), false, [⟨[97], [120], 1⟩]⟩), (2, .rw [(.int .u8 (Int.ofNat 120))])]⟩
end Kn3
end Am
end Go.Proofs.Ythgcdoahoechhaa
