/- DiskNumbers: the walk. -/
import Derived.Test.YtmfobcejnkakpaaC7b
namespace Go.Proofs.Ytmfobcejnkakpaa
namespace Am
namespace C7
open Go.RowKit
set_option maxRecDepth 1000000
theorem walk (W : World) : Calls Try.prog 7 #[] W fun e W' => e = .returned (.bool true) ∧ Below W.heap.size W W' := closed_law topf e24 (by rfl) W
end C7
end Am
end Go.Proofs.Ytmfobcejnkakpaa
