/- slices.Index of ints, and chapter 10's own question whether a list may be, told by plain functions. slices.Index of ints and chapter 10's question as functions of the table. The plain machine: a function that lays one new row and changes nothing else, as a function of the table; numbers put behind bytes. Numbers put behind bytes: octet.Put, chapter 2's Put, slices.Clone of bytes. -/
import Derived.Test.YthgcdoahoechhaaMC
import Derived.Test.YthgcdoahoechhaaMF
import Derived.Test.YthgcdoahoechhaaRows
import Derived.KernelRfl
set_option linter.unusedVariables false
set_option linter.unusedSimpArgs false
namespace Go.Proofs.Ythgcdoahoechhaa
namespace Am
open Go.RowKit
set_option maxRecDepth 100000
section
variable {X : Type} {E : Nat → Option (Ent X)}
def iv (n : Int) : AV := .int .i64 n
end
end Am
end Go.Proofs.Ythgcdoahoechhaa
namespace Go.Proofs.Ythgcdoahoechhaa
namespace Am
open Go.RowKit
set_option maxRecDepth 100000
variable {P : Program}
end Am
end Go.Proofs.Ythgcdoahoechhaa
namespace Go.Proofs.Ythgcdoahoechhaa
namespace Am
open Go.RowKit
set_option maxRecDepth 100000
variable {P : Program}
end Am
end Go.Proofs.Ythgcdoahoechhaa
namespace Go.Proofs.Ythgcdoahoechhaa
namespace Am
open Go.RowKit
set_option maxRecDepth 100000
section
variable {X : Type} {E : Nat → Option (Ent X)}
def Own1 (h : Hp X) (h' : Hp X) (v : AV) : Prop := Keep NoB h h' ∧ ∀ g, blk v g → h.n ≤ g
theorem ef_bs0 {e : En} {t : List AV} {h : Hp X} {z : Nat} {zero : List AV} : (Ef.bslice z 0 zero []).ev e t h = some (.slice z h.n 0 0 (some 0), h.push (.rw [])) := by
  simp only [Ef.ev, List.map, rep, fillA, allOne, List.length_nil, Nat.zero_mul, Nat.beq_refl, Bool.true_and]
  rfl
end
end Am
end Go.Proofs.Ythgcdoahoechhaa
