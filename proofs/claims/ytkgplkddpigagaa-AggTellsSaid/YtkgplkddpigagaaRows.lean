/-
  No cell of these rows narrows 'for every input' (looked for: loops, veiled, ifaces, maps, wideKeys, modest, calm, conditions, laid).
  DERIVED. THE GIVEN ROWS OF THIS SEAT. 4 by the template 'for every input the law returns true; each argument reads behind the call as it read before'; 0 by the template 'total and deterministic' (their statements: YtkgplkddpigagaaTotals.lean).
  GIVEN WITH THE SEED: the statements are not yours to turn. If you find one false, say at which input.
  Laid BY PROGRAM, IN A SANDBOX (cutbox-rows.mjs): the forced cells as the released guide's own fill.sh prints them over the translation 0286c89494fea539… (all of the seat's roots in one cut). By AI agents, Wed Nov 11 2026. No macro, syntax, notation, axiom, sorry.
-/
import Derived.Test.YtkgplkddpigagaaChecked
import GoSem.Claim
import GoSem.ClaimJoined
import GoSem.ClaimMapViews
import Derived.JoinedTies
import Derived.KernelRfl
namespace Go.Proofs.Ytkgplkddpigagaa
/- THE CELL 'sum', in the pinned program and in every row, IS THE sha256 OF THE DUMP (.gsa) THAT YtkgplkddpigagaaProg.lean LOADS. Nothing in Lean hashes anything: it is a label: what it is worth is what the hold of that sum in a sandbox is worth. -/
noncomputable def Try.pinned : Pinned := { name := "ytkgplkddpigagaa", sum := "0286c89494fea5397fc0742bda6c26a9c43cc8cae385fa0349e8166e5362de09", checked := Try.checked }
namespace Rows
def none {H : Type} : Left H := { results := [], args := [] }

/-- 'marigraphlaw23.AggTells': WHATEVER THE INPUT: true; the input reads as it did. -/
def aggTellsSpec : ChangeSpec := { name := "aggTells", fn := fun _ => fun
  | [d1, d2, d3, d4] => { results := [.lit (.bool true)], args := [d1, d2, d3, d4] }
  | _ => none }
def aggTellsRow : OpenClaim := { program := "ytkgplkddpigagaa", sum := "0286c89494fea5397fc0742bda6c26a9c43cc8cae385fa0349e8166e5362de09", func := "marigraph/marigraphlaw23.AggTells", spec := "aggTells", unfollowed := true, recurses := true, apart := false }
def AggTellsSaid : Prop := aggTellsRow.holds Try.pinned (OpenSpec.ofChange aggTellsSpec)

/-- ITS FALSE NEIGHBOUR: 'it returns false'. Refute it at one input. -/
def aggTellsWrong : ChangeSpec := { name := "aggTells", fn := fun _ => fun
  | [d1, d2, d3, d4] => { results := [.lit (.bool false)], args := [d1, d2, d3, d4] }
  | _ => none }
def AggTellsWrongFalsely : Prop := aggTellsRow.holds Try.pinned (OpenSpec.ofChange aggTellsWrong)

/-- 'marigraphlaw23.AggOne': WHATEVER THE INPUT: true; the input reads as it did. -/
def aggOneSpec : ChangeSpec := { name := "aggOne", fn := fun _ => fun
  | [d1, d2] => { results := [.lit (.bool true)], args := [d1, d2] }
  | _ => none }
def aggOneRow : OpenClaim := { program := "ytkgplkddpigagaa", sum := "0286c89494fea5397fc0742bda6c26a9c43cc8cae385fa0349e8166e5362de09", func := "marigraph/marigraphlaw23.AggOne", spec := "aggOne", unfollowed := true, recurses := true, apart := false }
def AggOneSaid : Prop := aggOneRow.holds Try.pinned (OpenSpec.ofChange aggOneSpec)

/-- ITS FALSE NEIGHBOUR: 'it returns false'. Refute it at one input. -/
def aggOneWrong : ChangeSpec := { name := "aggOne", fn := fun _ => fun
  | [d1, d2] => { results := [.lit (.bool false)], args := [d1, d2] }
  | _ => none }
def AggOneWrongFalsely : Prop := aggOneRow.holds Try.pinned (OpenSpec.ofChange aggOneWrong)

/-- 'marigraphlaw23.AggTimes': WHATEVER THE INPUT: true; the input reads as it did. -/
def aggTimesSpec : ChangeSpec := { name := "aggTimes", fn := fun _ => fun
  | [d1, d2] => { results := [.lit (.bool true)], args := [d1, d2] }
  | _ => none }
def aggTimesRow : OpenClaim := { program := "ytkgplkddpigagaa", sum := "0286c89494fea5397fc0742bda6c26a9c43cc8cae385fa0349e8166e5362de09", func := "marigraph/marigraphlaw23.AggTimes", spec := "aggTimes", unfollowed := true, recurses := true, apart := false }
def AggTimesSaid : Prop := aggTimesRow.holds Try.pinned (OpenSpec.ofChange aggTimesSpec)

/-- ITS FALSE NEIGHBOUR: 'it returns false'. Refute it at one input. -/
def aggTimesWrong : ChangeSpec := { name := "aggTimes", fn := fun _ => fun
  | [d1, d2] => { results := [.lit (.bool false)], args := [d1, d2] }
  | _ => none }
def AggTimesWrongFalsely : Prop := aggTimesRow.holds Try.pinned (OpenSpec.ofChange aggTimesWrong)

/-- 'marigraphlaw23.AggParts': WHATEVER THE INPUT: true; the input reads as it did. -/
def aggPartsSpec : ChangeSpec := { name := "aggParts", fn := fun _ => fun
  | [d1, d2, d3] => { results := [.lit (.bool true)], args := [d1, d2, d3] }
  | _ => none }
def aggPartsRow : OpenClaim := { program := "ytkgplkddpigagaa", sum := "0286c89494fea5397fc0742bda6c26a9c43cc8cae385fa0349e8166e5362de09", func := "marigraph/marigraphlaw23.AggParts", spec := "aggParts", unfollowed := true, recurses := true, apart := false }
def AggPartsSaid : Prop := aggPartsRow.holds Try.pinned (OpenSpec.ofChange aggPartsSpec)

/-- ITS FALSE NEIGHBOUR: 'it returns false'. Refute it at one input. -/
def aggPartsWrong : ChangeSpec := { name := "aggParts", fn := fun _ => fun
  | [d1, d2, d3] => { results := [.lit (.bool false)], args := [d1, d2, d3] }
  | _ => none }
def AggPartsWrongFalsely : Prop := aggPartsRow.holds Try.pinned (OpenSpec.ofChange aggPartsWrong)

/- THE SECOND FORM. 'bulk': how many values and letters a reading holds, each counted each time it is reached (what is shared counts as often as it is met; a slice's spare places count too). A statement '..UptoSaid' is the law's where the arguments, and the package variables that the reading takes, are together of bulk at most 1048576: NARROWER than '..Said'. Prove '..Said' where nothing that the law and all that it calls make is longer than what came in: it says more and counts as full. Else prove '..UptoSaid'. A law counts once. -/
mutual
def uptoBulk {H : Type} : DataW H → Nat
  | .lit (.string bytes) => bytes.length + 1
  | .lit _ => 1
  | .nil => 1
  | .ptr d => uptoBulk d + 1
  | .slice elems spare => uptoBulkAll elems + uptoBulkAll spare + 1
  | .agg parts => uptoBulkAll parts + 1
  | .iface _ d => uptoBulk d + 1
  | .map entries => uptoBulkEntries entries + 1
  | .held _ => 1
def uptoBulkAll {H : Type} : List (DataW H) → Nat
  | [] => 0
  | d :: r => uptoBulk d + uptoBulkAll r
def uptoBulkEntries {H : Type} : List (Lit × DataW H) → Nat
  | [] => 0
  | x :: r => uptoBulkEntry x + uptoBulkEntries r
def uptoBulkEntry {H : Type} : Lit × DataW H → Nat
  | (.string bytes, d) => bytes.length + uptoBulk d + 1
  | (_, d) => uptoBulk d + 1
 end
def uptoSmall : (H : Type) → List (DataW H) → Bool := fun _ ds => decide (uptoBulkAll ds ≤ 1048576)
def OpenSpec.upto (s : _root_.Go.ChangeSpec) : _root_.Go.OpenSpec := { _root_.Go.OpenSpec.ofChange s with cond := some uptoSmall }

/-- 'marigraphlaw23.AggTells', WHERE WHAT IT READS IS OF BULK AT MOST 1048576: true; the input reads as it did. -/
def aggTellsUptoRow : OpenClaim := { program := "ytkgplkddpigagaa", sum := "0286c89494fea5397fc0742bda6c26a9c43cc8cae385fa0349e8166e5362de09", func := "marigraph/marigraphlaw23.AggTells", spec := "aggTells", unfollowed := true, recurses := true, apart := false, narrowed := true }
def AggTellsUptoSaid : Prop := aggTellsUptoRow.holds Try.pinned (OpenSpec.upto aggTellsSpec)

/-- 'marigraphlaw23.AggOne', WHERE WHAT IT READS IS OF BULK AT MOST 1048576: true; the input reads as it did. -/
def aggOneUptoRow : OpenClaim := { program := "ytkgplkddpigagaa", sum := "0286c89494fea5397fc0742bda6c26a9c43cc8cae385fa0349e8166e5362de09", func := "marigraph/marigraphlaw23.AggOne", spec := "aggOne", unfollowed := true, recurses := true, apart := false, narrowed := true }
def AggOneUptoSaid : Prop := aggOneUptoRow.holds Try.pinned (OpenSpec.upto aggOneSpec)

/-- 'marigraphlaw23.AggTimes', WHERE WHAT IT READS IS OF BULK AT MOST 1048576: true; the input reads as it did. -/
def aggTimesUptoRow : OpenClaim := { program := "ytkgplkddpigagaa", sum := "0286c89494fea5397fc0742bda6c26a9c43cc8cae385fa0349e8166e5362de09", func := "marigraph/marigraphlaw23.AggTimes", spec := "aggTimes", unfollowed := true, recurses := true, apart := false, narrowed := true }
def AggTimesUptoSaid : Prop := aggTimesUptoRow.holds Try.pinned (OpenSpec.upto aggTimesSpec)

/-- 'marigraphlaw23.AggParts', WHERE WHAT IT READS IS OF BULK AT MOST 1048576: true; the input reads as it did. -/
def aggPartsUptoRow : OpenClaim := { program := "ytkgplkddpigagaa", sum := "0286c89494fea5397fc0742bda6c26a9c43cc8cae385fa0349e8166e5362de09", func := "marigraph/marigraphlaw23.AggParts", spec := "aggParts", unfollowed := true, recurses := true, apart := false, narrowed := true }
def AggPartsUptoSaid : Prop := aggPartsUptoRow.holds Try.pinned (OpenSpec.upto aggPartsSpec)

end Rows
end Go.Proofs.Ytkgplkddpigagaa
