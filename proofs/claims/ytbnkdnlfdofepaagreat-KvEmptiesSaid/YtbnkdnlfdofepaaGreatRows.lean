/-
  No cell of these rows narrows 'for every input' (looked for: loops, veiled, ifaces, maps, wideKeys, modest, calm, conditions, laid).
  DERIVED. THE GIVEN ROWS OF THIS SEAT. 13 by the template 'for every input the law returns true; each argument reads behind the call as it read before'; 0 by the template 'total and deterministic' (their statements: YtbnkdnlfdofepaaGreatTotals.lean).
  GIVEN WITH THE SEED: the statements are not yours to turn. If you find one false, say at which input.
  Laid BY PROGRAM, IN A SANDBOX (cutbox-rows.mjs): the forced cells as the released guide's own fill.sh prints them over the translation 11f8242976388005… (all of the seat's roots in one cut). By AI agents, Wed Nov 11 2026. No macro, syntax, notation, axiom, sorry.
-/
import Derived.Test.YtbnkdnlfdofepaaGreatChecked
import GoSem.Claim
import GoSem.ClaimJoined
import GoSem.ClaimMapViews
import Derived.JoinedTies
import Derived.KernelRfl
namespace Go.Proofs.YtbnkdnlfdofepaaGreat
/- THE CELL 'sum', in the pinned program and in every row, IS THE sha256 OF THE DUMP (.gsa) THAT YtbnkdnlfdofepaaGreatProg.lean LOADS. Nothing in Lean hashes anything: it is a label: what it is worth is what the hold of that sum in a sandbox is worth. -/
noncomputable def Tryz.pinned : Pinned := { name := "ytbnkdnlfdofepaagreat", sum := "11f8242976388005a9cf1f862d5b4b18a3cdc61661e55a347ec065961c487538", checked := Tryz.checked }
namespace Rows
def none {H : Type} : Left H := { results := [], args := [] }

/-- 'marigraphlaw13.UidSpoilt': WHATEVER THE INPUT: true; the input reads as it did. -/
def uidSpoiltSpec : ChangeSpec := { name := "uidSpoilt", fn := fun _ => fun
  | [d1, d2, d3, d4, d5, d6] => { results := [.lit (.bool true)], args := [d1, d2, d3, d4, d5, d6] }
  | _ => none }
def uidSpoiltRow : OpenClaim := { program := "ytbnkdnlfdofepaagreat", sum := "11f8242976388005a9cf1f862d5b4b18a3cdc61661e55a347ec065961c487538", func := "marigraph/marigraphlaw13.UidSpoilt", spec := "uidSpoilt", inPlace := ["internal/bytealg.abigen_runtime_cmpstring", "internal/bytealg.Compare", "slices.overlaps[*marigraph/disk.file]", "slices.overlaps[marigraph/api.Entry]"], unfollowed := true, recurses := true, apart := false }
def UidSpoiltSaid : Prop := uidSpoiltRow.holds Tryz.pinned (OpenSpec.ofChange uidSpoiltSpec)

/-- ITS FALSE NEIGHBOUR: 'it returns false'. Refute it at one input. -/
def uidSpoiltWrong : ChangeSpec := { name := "uidSpoilt", fn := fun _ => fun
  | [d1, d2, d3, d4, d5, d6] => { results := [.lit (.bool false)], args := [d1, d2, d3, d4, d5, d6] }
  | _ => none }
def UidSpoiltWrongFalsely : Prop := uidSpoiltRow.holds Tryz.pinned (OpenSpec.ofChange uidSpoiltWrong)

/-- 'marigraphlaw13.UidCrashes': WHATEVER THE INPUT: true; the input reads as it did. -/
def uidCrashesSpec : ChangeSpec := { name := "uidCrashes", fn := fun _ => fun
  | [d1, d2, d3, d4] => { results := [.lit (.bool true)], args := [d1, d2, d3, d4] }
  | _ => none }
def uidCrashesRow : OpenClaim := { program := "ytbnkdnlfdofepaagreat", sum := "11f8242976388005a9cf1f862d5b4b18a3cdc61661e55a347ec065961c487538", func := "marigraph/marigraphlaw13.UidCrashes", spec := "uidCrashes", inPlace := ["internal/bytealg.abigen_runtime_cmpstring", "internal/bytealg.Compare", "slices.overlaps[*marigraph/disk.file]", "slices.overlaps[marigraph/api.Entry]"], unfollowed := true, recurses := true, apart := false }
def UidCrashesSaid : Prop := uidCrashesRow.holds Tryz.pinned (OpenSpec.ofChange uidCrashesSpec)

/-- ITS FALSE NEIGHBOUR: 'it returns false'. Refute it at one input. -/
def uidCrashesWrong : ChangeSpec := { name := "uidCrashes", fn := fun _ => fun
  | [d1, d2, d3, d4] => { results := [.lit (.bool false)], args := [d1, d2, d3, d4] }
  | _ => none }
def UidCrashesWrongFalsely : Prop := uidCrashesRow.holds Tryz.pinned (OpenSpec.ofChange uidCrashesWrong)

/-- 'marigraphlaw13.UidOnce': WHATEVER THE INPUT: true; the input reads as it did. -/
def uidOnceSpec : ChangeSpec := { name := "uidOnce", fn := fun _ => fun
  | [d] => { results := [.lit (.bool true)], args := [d] }
  | _ => none }
def uidOnceRow : OpenClaim := { program := "ytbnkdnlfdofepaagreat", sum := "11f8242976388005a9cf1f862d5b4b18a3cdc61661e55a347ec065961c487538", func := "marigraph/marigraphlaw13.UidOnce", spec := "uidOnce", inPlace := ["internal/bytealg.abigen_runtime_cmpstring", "internal/bytealg.Compare", "slices.overlaps[*marigraph/disk.file]", "slices.overlaps[marigraph/api.Entry]"], unfollowed := true, recurses := true, apart := false }
def UidOnceSaid : Prop := uidOnceRow.holds Tryz.pinned (OpenSpec.ofChange uidOnceSpec)

/-- ITS FALSE NEIGHBOUR: 'it returns false'. Refute it at one input. -/
def uidOnceWrong : ChangeSpec := { name := "uidOnce", fn := fun _ => fun
  | [d] => { results := [.lit (.bool false)], args := [d] }
  | _ => none }
def UidOnceWrongFalsely : Prop := uidOnceRow.holds Tryz.pinned (OpenSpec.ofChange uidOnceWrong)

/-- 'marigraphlaw13.UidRenames': WHATEVER THE INPUT: true; the input reads as it did. -/
def uidRenamesSpec : ChangeSpec := { name := "uidRenames", fn := fun _ => fun
  | [d1, d2] => { results := [.lit (.bool true)], args := [d1, d2] }
  | _ => none }
def uidRenamesRow : OpenClaim := { program := "ytbnkdnlfdofepaagreat", sum := "11f8242976388005a9cf1f862d5b4b18a3cdc61661e55a347ec065961c487538", func := "marigraph/marigraphlaw13.UidRenames", spec := "uidRenames", inPlace := ["internal/bytealg.abigen_runtime_cmpstring", "internal/bytealg.Compare", "slices.overlaps[*marigraph/disk.file]", "slices.overlaps[marigraph/api.Entry]"], unfollowed := true, recurses := true, apart := false }
def UidRenamesSaid : Prop := uidRenamesRow.holds Tryz.pinned (OpenSpec.ofChange uidRenamesSpec)

/-- ITS FALSE NEIGHBOUR: 'it returns false'. Refute it at one input. -/
def uidRenamesWrong : ChangeSpec := { name := "uidRenames", fn := fun _ => fun
  | [d1, d2] => { results := [.lit (.bool false)], args := [d1, d2] }
  | _ => none }
def UidRenamesWrongFalsely : Prop := uidRenamesRow.holds Tryz.pinned (OpenSpec.ofChange uidRenamesWrong)

/-- 'marigraphlaw11.KvSame': WHATEVER THE INPUT: true; the input reads as it did. -/
def kvSameSpec : ChangeSpec := { name := "kvSame", fn := fun _ => fun
  | [d1, d2] => { results := [.lit (.bool true)], args := [d1, d2] }
  | _ => none }
def kvSameRow : OpenClaim := { program := "ytbnkdnlfdofepaagreat", sum := "11f8242976388005a9cf1f862d5b4b18a3cdc61661e55a347ec065961c487538", func := "marigraph/marigraphlaw11.KvSame", spec := "kvSame", inPlace := ["internal/bytealg.abigen_runtime_cmpstring", "internal/bytealg.Compare", "slices.overlaps[*marigraph/disk.file]", "slices.overlaps[marigraph/api.Entry]"], unfollowed := true, recurses := true, apart := false }
def KvSameSaid : Prop := kvSameRow.holds Tryz.pinned (OpenSpec.ofChange kvSameSpec)

/-- ITS FALSE NEIGHBOUR: 'it returns false'. Refute it at one input. -/
def kvSameWrong : ChangeSpec := { name := "kvSame", fn := fun _ => fun
  | [d1, d2] => { results := [.lit (.bool false)], args := [d1, d2] }
  | _ => none }
def KvSameWrongFalsely : Prop := kvSameRow.holds Tryz.pinned (OpenSpec.ofChange kvSameWrong)

/-- 'marigraphlaw11.KvOrphans': WHATEVER THE INPUT: true; the input reads as it did. -/
def kvOrphansSpec : ChangeSpec := { name := "kvOrphans", fn := fun _ => fun
  | [d1, d2, d3] => { results := [.lit (.bool true)], args := [d1, d2, d3] }
  | _ => none }
def kvOrphansRow : OpenClaim := { program := "ytbnkdnlfdofepaagreat", sum := "11f8242976388005a9cf1f862d5b4b18a3cdc61661e55a347ec065961c487538", func := "marigraph/marigraphlaw11.KvOrphans", spec := "kvOrphans", inPlace := ["internal/bytealg.abigen_runtime_cmpstring", "internal/bytealg.Compare", "slices.overlaps[*marigraph/disk.file]", "slices.overlaps[marigraph/api.Entry]"], unfollowed := true, recurses := true, apart := false }
def KvOrphansSaid : Prop := kvOrphansRow.holds Tryz.pinned (OpenSpec.ofChange kvOrphansSpec)

/-- ITS FALSE NEIGHBOUR: 'it returns false'. Refute it at one input. -/
def kvOrphansWrong : ChangeSpec := { name := "kvOrphans", fn := fun _ => fun
  | [d1, d2, d3] => { results := [.lit (.bool false)], args := [d1, d2, d3] }
  | _ => none }
def KvOrphansWrongFalsely : Prop := kvOrphansRow.holds Tryz.pinned (OpenSpec.ofChange kvOrphansWrong)

/-- 'marigraphlaw11.KvRanges': WHATEVER THE INPUT: true; the input reads as it did. -/
def kvRangesSpec : ChangeSpec := { name := "kvRanges", fn := fun _ => fun
  | [d1, d2] => { results := [.lit (.bool true)], args := [d1, d2] }
  | _ => none }
def kvRangesRow : OpenClaim := { program := "ytbnkdnlfdofepaagreat", sum := "11f8242976388005a9cf1f862d5b4b18a3cdc61661e55a347ec065961c487538", func := "marigraph/marigraphlaw11.KvRanges", spec := "kvRanges", inPlace := ["internal/bytealg.abigen_runtime_cmpstring", "internal/bytealg.Compare", "slices.overlaps[*marigraph/disk.file]", "slices.overlaps[marigraph/api.Entry]"], unfollowed := true, recurses := true, apart := false }
def KvRangesSaid : Prop := kvRangesRow.holds Tryz.pinned (OpenSpec.ofChange kvRangesSpec)

/-- ITS FALSE NEIGHBOUR: 'it returns false'. Refute it at one input. -/
def kvRangesWrong : ChangeSpec := { name := "kvRanges", fn := fun _ => fun
  | [d1, d2] => { results := [.lit (.bool false)], args := [d1, d2] }
  | _ => none }
def KvRangesWrongFalsely : Prop := kvRangesRow.holds Tryz.pinned (OpenSpec.ofChange kvRangesWrong)

/-- 'marigraphlaw11.KvEmpties': WHATEVER THE INPUT: true; the input reads as it did. -/
def kvEmptiesSpec : ChangeSpec := { name := "kvEmpties", fn := fun _ => fun
  | [d1, d2] => { results := [.lit (.bool true)], args := [d1, d2] }
  | _ => none }
def kvEmptiesRow : OpenClaim := { program := "ytbnkdnlfdofepaagreat", sum := "11f8242976388005a9cf1f862d5b4b18a3cdc61661e55a347ec065961c487538", func := "marigraph/marigraphlaw11.KvEmpties", spec := "kvEmpties", inPlace := ["internal/bytealg.abigen_runtime_cmpstring", "internal/bytealg.Compare", "slices.overlaps[*marigraph/disk.file]", "slices.overlaps[marigraph/api.Entry]"], unfollowed := true, recurses := true, apart := false }
def KvEmptiesSaid : Prop := kvEmptiesRow.holds Tryz.pinned (OpenSpec.ofChange kvEmptiesSpec)

/-- ITS FALSE NEIGHBOUR: 'it returns false'. Refute it at one input. -/
def kvEmptiesWrong : ChangeSpec := { name := "kvEmpties", fn := fun _ => fun
  | [d1, d2] => { results := [.lit (.bool false)], args := [d1, d2] }
  | _ => none }
def KvEmptiesWrongFalsely : Prop := kvEmptiesRow.holds Tryz.pinned (OpenSpec.ofChange kvEmptiesWrong)

/-- 'marigraphlaw11.KvNumbers': WHATEVER THE INPUT: true; the input reads as it did. -/
def kvNumbersSpec : ChangeSpec := { name := "kvNumbers", fn := fun _ => fun
  | [] => { results := [.lit (.bool true)], args := [] }
  | _ => none }
def kvNumbersRow : OpenClaim := { program := "ytbnkdnlfdofepaagreat", sum := "11f8242976388005a9cf1f862d5b4b18a3cdc61661e55a347ec065961c487538", func := "marigraph/marigraphlaw11.KvNumbers", spec := "kvNumbers", inPlace := ["internal/bytealg.abigen_runtime_cmpstring", "internal/bytealg.Compare", "slices.overlaps[*marigraph/disk.file]", "slices.overlaps[marigraph/api.Entry]"], unfollowed := true, recurses := true, apart := false }
def KvNumbersSaid : Prop := kvNumbersRow.holds Tryz.pinned (OpenSpec.ofChange kvNumbersSpec)

/-- ITS FALSE NEIGHBOUR: 'it returns false'. Refute it at one input. -/
def kvNumbersWrong : ChangeSpec := { name := "kvNumbers", fn := fun _ => fun
  | [] => { results := [.lit (.bool false)], args := [] }
  | _ => none }
def KvNumbersWrongFalsely : Prop := kvNumbersRow.holds Tryz.pinned (OpenSpec.ofChange kvNumbersWrong)

/-- 'marigraphlaw11.KvPlays': WHATEVER THE INPUT: true; the input reads as it did. -/
def kvPlaysSpec : ChangeSpec := { name := "kvPlays", fn := fun _ => fun
  | [d1, d2] => { results := [.lit (.bool true)], args := [d1, d2] }
  | _ => none }
def kvPlaysRow : OpenClaim := { program := "ytbnkdnlfdofepaagreat", sum := "11f8242976388005a9cf1f862d5b4b18a3cdc61661e55a347ec065961c487538", func := "marigraph/marigraphlaw11.KvPlays", spec := "kvPlays", inPlace := ["internal/bytealg.abigen_runtime_cmpstring", "internal/bytealg.Compare", "slices.overlaps[*marigraph/disk.file]", "slices.overlaps[marigraph/api.Entry]"], unfollowed := true, recurses := true, apart := false }
def KvPlaysSaid : Prop := kvPlaysRow.holds Tryz.pinned (OpenSpec.ofChange kvPlaysSpec)

/-- ITS FALSE NEIGHBOUR: 'it returns false'. Refute it at one input. -/
def kvPlaysWrong : ChangeSpec := { name := "kvPlays", fn := fun _ => fun
  | [d1, d2] => { results := [.lit (.bool false)], args := [d1, d2] }
  | _ => none }
def KvPlaysWrongFalsely : Prop := kvPlaysRow.holds Tryz.pinned (OpenSpec.ofChange kvPlaysWrong)

/-- 'marigraphlaw11.KvCrashes': WHATEVER THE INPUT: true; the input reads as it did. -/
def kvCrashesSpec : ChangeSpec := { name := "kvCrashes", fn := fun _ => fun
  | [d1, d2, d3, d4] => { results := [.lit (.bool true)], args := [d1, d2, d3, d4] }
  | _ => none }
def kvCrashesRow : OpenClaim := { program := "ytbnkdnlfdofepaagreat", sum := "11f8242976388005a9cf1f862d5b4b18a3cdc61661e55a347ec065961c487538", func := "marigraph/marigraphlaw11.KvCrashes", spec := "kvCrashes", inPlace := ["internal/bytealg.abigen_runtime_cmpstring", "internal/bytealg.Compare", "slices.overlaps[*marigraph/disk.file]", "slices.overlaps[marigraph/api.Entry]"], unfollowed := true, recurses := true, apart := false }
def KvCrashesSaid : Prop := kvCrashesRow.holds Tryz.pinned (OpenSpec.ofChange kvCrashesSpec)

/-- ITS FALSE NEIGHBOUR: 'it returns false'. Refute it at one input. -/
def kvCrashesWrong : ChangeSpec := { name := "kvCrashes", fn := fun _ => fun
  | [d1, d2, d3, d4] => { results := [.lit (.bool false)], args := [d1, d2, d3, d4] }
  | _ => none }
def KvCrashesWrongFalsely : Prop := kvCrashesRow.holds Tryz.pinned (OpenSpec.ofChange kvCrashesWrong)

/-- 'marigraphlaw13.UidNumbers': WHATEVER THE INPUT: true; the input reads as it did. -/
def uidNumbersSpec : ChangeSpec := { name := "uidNumbers", fn := fun _ => fun
  | [] => { results := [.lit (.bool true)], args := [] }
  | _ => none }
def uidNumbersRow : OpenClaim := { program := "ytbnkdnlfdofepaagreat", sum := "11f8242976388005a9cf1f862d5b4b18a3cdc61661e55a347ec065961c487538", func := "marigraph/marigraphlaw13.UidNumbers", spec := "uidNumbers", inPlace := ["internal/bytealg.abigen_runtime_cmpstring", "internal/bytealg.Compare", "slices.overlaps[*marigraph/disk.file]", "slices.overlaps[marigraph/api.Entry]"], unfollowed := true, recurses := true, apart := false }
def UidNumbersSaid : Prop := uidNumbersRow.holds Tryz.pinned (OpenSpec.ofChange uidNumbersSpec)

/-- ITS FALSE NEIGHBOUR: 'it returns false'. Refute it at one input. -/
def uidNumbersWrong : ChangeSpec := { name := "uidNumbers", fn := fun _ => fun
  | [] => { results := [.lit (.bool false)], args := [] }
  | _ => none }
def UidNumbersWrongFalsely : Prop := uidNumbersRow.holds Tryz.pinned (OpenSpec.ofChange uidNumbersWrong)

/-- 'marigraphlaw13.UidPlays': WHATEVER THE INPUT: true; the input reads as it did. -/
def uidPlaysSpec : ChangeSpec := { name := "uidPlays", fn := fun _ => fun
  | [d1, d2, d3] => { results := [.lit (.bool true)], args := [d1, d2, d3] }
  | _ => none }
def uidPlaysRow : OpenClaim := { program := "ytbnkdnlfdofepaagreat", sum := "11f8242976388005a9cf1f862d5b4b18a3cdc61661e55a347ec065961c487538", func := "marigraph/marigraphlaw13.UidPlays", spec := "uidPlays", inPlace := ["internal/bytealg.abigen_runtime_cmpstring", "internal/bytealg.Compare", "slices.overlaps[*marigraph/disk.file]", "slices.overlaps[marigraph/api.Entry]"], unfollowed := true, recurses := true, apart := false }
def UidPlaysSaid : Prop := uidPlaysRow.holds Tryz.pinned (OpenSpec.ofChange uidPlaysSpec)

/-- ITS FALSE NEIGHBOUR: 'it returns false'. Refute it at one input. -/
def uidPlaysWrong : ChangeSpec := { name := "uidPlays", fn := fun _ => fun
  | [d1, d2, d3] => { results := [.lit (.bool false)], args := [d1, d2, d3] }
  | _ => none }
def UidPlaysWrongFalsely : Prop := uidPlaysRow.holds Tryz.pinned (OpenSpec.ofChange uidPlaysWrong)

/- THE SECOND FORM. 'bulk': how many values and letters a reading holds, each counted each time it is reached (what is shared counts as often as it is met; a slice's spare places count too). A statement '..UptoSaid' is the law's where the arguments, and the package variables that the reading takes, are together of bulk at most 1048576: NARROWER than '..Said'. Prove '..Said' where nothing that the law and all that it calls make is longer than what came in: it says more and counts as full. Else prove '..UptoSaid'. A law counts once. -/
mutual
def uptoBulk {H : Type} : DataW H → Nat
  | .lit (.string bytes) => bytes.length + 1
  | .lit _ => 1
  | .nil => 1
  | .ptr d => uptoBulk d + 1
  | .slice elems spare => uptoBulkAll elems + uptoBulkAll spare + 1
  | .agg parts => uptoBulkAll parts + 1
  | .iface _ d => uptoBulk d + 1
  | .map entries => uptoBulkEntries entries + 1
  | .held _ => 1
def uptoBulkAll {H : Type} : List (DataW H) → Nat
  | [] => 0
  | d :: r => uptoBulk d + uptoBulkAll r
def uptoBulkEntries {H : Type} : List (Lit × DataW H) → Nat
  | [] => 0
  | x :: r => uptoBulkEntry x + uptoBulkEntries r
def uptoBulkEntry {H : Type} : Lit × DataW H → Nat
  | (.string bytes, d) => bytes.length + uptoBulk d + 1
  | (_, d) => uptoBulk d + 1
 end
def uptoSmall : (H : Type) → List (DataW H) → Bool := fun _ ds => decide (uptoBulkAll ds ≤ 1048576)
def OpenSpec.upto (s : _root_.Go.ChangeSpec) : _root_.Go.OpenSpec := { _root_.Go.OpenSpec.ofChange s with cond := some uptoSmall }

/-- 'marigraphlaw13.UidSpoilt', WHERE WHAT IT READS IS OF BULK AT MOST 1048576: true; the input reads as it did. -/
def uidSpoiltUptoRow : OpenClaim := { program := "ytbnkdnlfdofepaagreat", sum := "11f8242976388005a9cf1f862d5b4b18a3cdc61661e55a347ec065961c487538", func := "marigraph/marigraphlaw13.UidSpoilt", spec := "uidSpoilt", inPlace := ["internal/bytealg.abigen_runtime_cmpstring", "internal/bytealg.Compare", "slices.overlaps[*marigraph/disk.file]", "slices.overlaps[marigraph/api.Entry]"], unfollowed := true, recurses := true, apart := false, narrowed := true }
def UidSpoiltUptoSaid : Prop := uidSpoiltUptoRow.holds Tryz.pinned (OpenSpec.upto uidSpoiltSpec)

/-- 'marigraphlaw13.UidCrashes', WHERE WHAT IT READS IS OF BULK AT MOST 1048576: true; the input reads as it did. -/
def uidCrashesUptoRow : OpenClaim := { program := "ytbnkdnlfdofepaagreat", sum := "11f8242976388005a9cf1f862d5b4b18a3cdc61661e55a347ec065961c487538", func := "marigraph/marigraphlaw13.UidCrashes", spec := "uidCrashes", inPlace := ["internal/bytealg.abigen_runtime_cmpstring", "internal/bytealg.Compare", "slices.overlaps[*marigraph/disk.file]", "slices.overlaps[marigraph/api.Entry]"], unfollowed := true, recurses := true, apart := false, narrowed := true }
def UidCrashesUptoSaid : Prop := uidCrashesUptoRow.holds Tryz.pinned (OpenSpec.upto uidCrashesSpec)

/-- 'marigraphlaw13.UidOnce', WHERE WHAT IT READS IS OF BULK AT MOST 1048576: true; the input reads as it did. -/
def uidOnceUptoRow : OpenClaim := { program := "ytbnkdnlfdofepaagreat", sum := "11f8242976388005a9cf1f862d5b4b18a3cdc61661e55a347ec065961c487538", func := "marigraph/marigraphlaw13.UidOnce", spec := "uidOnce", inPlace := ["internal/bytealg.abigen_runtime_cmpstring", "internal/bytealg.Compare", "slices.overlaps[*marigraph/disk.file]", "slices.overlaps[marigraph/api.Entry]"], unfollowed := true, recurses := true, apart := false, narrowed := true }
def UidOnceUptoSaid : Prop := uidOnceUptoRow.holds Tryz.pinned (OpenSpec.upto uidOnceSpec)

/-- 'marigraphlaw13.UidRenames', WHERE WHAT IT READS IS OF BULK AT MOST 1048576: true; the input reads as it did. -/
def uidRenamesUptoRow : OpenClaim := { program := "ytbnkdnlfdofepaagreat", sum := "11f8242976388005a9cf1f862d5b4b18a3cdc61661e55a347ec065961c487538", func := "marigraph/marigraphlaw13.UidRenames", spec := "uidRenames", inPlace := ["internal/bytealg.abigen_runtime_cmpstring", "internal/bytealg.Compare", "slices.overlaps[*marigraph/disk.file]", "slices.overlaps[marigraph/api.Entry]"], unfollowed := true, recurses := true, apart := false, narrowed := true }
def UidRenamesUptoSaid : Prop := uidRenamesUptoRow.holds Tryz.pinned (OpenSpec.upto uidRenamesSpec)

/-- 'marigraphlaw11.KvSame', WHERE WHAT IT READS IS OF BULK AT MOST 1048576: true; the input reads as it did. -/
def kvSameUptoRow : OpenClaim := { program := "ytbnkdnlfdofepaagreat", sum := "11f8242976388005a9cf1f862d5b4b18a3cdc61661e55a347ec065961c487538", func := "marigraph/marigraphlaw11.KvSame", spec := "kvSame", inPlace := ["internal/bytealg.abigen_runtime_cmpstring", "internal/bytealg.Compare", "slices.overlaps[*marigraph/disk.file]", "slices.overlaps[marigraph/api.Entry]"], unfollowed := true, recurses := true, apart := false, narrowed := true }
def KvSameUptoSaid : Prop := kvSameUptoRow.holds Tryz.pinned (OpenSpec.upto kvSameSpec)

/-- 'marigraphlaw11.KvOrphans', WHERE WHAT IT READS IS OF BULK AT MOST 1048576: true; the input reads as it did. -/
def kvOrphansUptoRow : OpenClaim := { program := "ytbnkdnlfdofepaagreat", sum := "11f8242976388005a9cf1f862d5b4b18a3cdc61661e55a347ec065961c487538", func := "marigraph/marigraphlaw11.KvOrphans", spec := "kvOrphans", inPlace := ["internal/bytealg.abigen_runtime_cmpstring", "internal/bytealg.Compare", "slices.overlaps[*marigraph/disk.file]", "slices.overlaps[marigraph/api.Entry]"], unfollowed := true, recurses := true, apart := false, narrowed := true }
def KvOrphansUptoSaid : Prop := kvOrphansUptoRow.holds Tryz.pinned (OpenSpec.upto kvOrphansSpec)

/-- 'marigraphlaw11.KvRanges', WHERE WHAT IT READS IS OF BULK AT MOST 1048576: true; the input reads as it did. -/
def kvRangesUptoRow : OpenClaim := { program := "ytbnkdnlfdofepaagreat", sum := "11f8242976388005a9cf1f862d5b4b18a3cdc61661e55a347ec065961c487538", func := "marigraph/marigraphlaw11.KvRanges", spec := "kvRanges", inPlace := ["internal/bytealg.abigen_runtime_cmpstring", "internal/bytealg.Compare", "slices.overlaps[*marigraph/disk.file]", "slices.overlaps[marigraph/api.Entry]"], unfollowed := true, recurses := true, apart := false, narrowed := true }
def KvRangesUptoSaid : Prop := kvRangesUptoRow.holds Tryz.pinned (OpenSpec.upto kvRangesSpec)

/-- 'marigraphlaw11.KvEmpties', WHERE WHAT IT READS IS OF BULK AT MOST 1048576: true; the input reads as it did. -/
def kvEmptiesUptoRow : OpenClaim := { program := "ytbnkdnlfdofepaagreat", sum := "11f8242976388005a9cf1f862d5b4b18a3cdc61661e55a347ec065961c487538", func := "marigraph/marigraphlaw11.KvEmpties", spec := "kvEmpties", inPlace := ["internal/bytealg.abigen_runtime_cmpstring", "internal/bytealg.Compare", "slices.overlaps[*marigraph/disk.file]", "slices.overlaps[marigraph/api.Entry]"], unfollowed := true, recurses := true, apart := false, narrowed := true }
def KvEmptiesUptoSaid : Prop := kvEmptiesUptoRow.holds Tryz.pinned (OpenSpec.upto kvEmptiesSpec)

/-- 'marigraphlaw11.KvNumbers', WHERE WHAT IT READS IS OF BULK AT MOST 1048576: true; the input reads as it did. -/
def kvNumbersUptoRow : OpenClaim := { program := "ytbnkdnlfdofepaagreat", sum := "11f8242976388005a9cf1f862d5b4b18a3cdc61661e55a347ec065961c487538", func := "marigraph/marigraphlaw11.KvNumbers", spec := "kvNumbers", inPlace := ["internal/bytealg.abigen_runtime_cmpstring", "internal/bytealg.Compare", "slices.overlaps[*marigraph/disk.file]", "slices.overlaps[marigraph/api.Entry]"], unfollowed := true, recurses := true, apart := false, narrowed := true }
def KvNumbersUptoSaid : Prop := kvNumbersUptoRow.holds Tryz.pinned (OpenSpec.upto kvNumbersSpec)

/-- 'marigraphlaw11.KvPlays', WHERE WHAT IT READS IS OF BULK AT MOST 1048576: true; the input reads as it did. -/
def kvPlaysUptoRow : OpenClaim := { program := "ytbnkdnlfdofepaagreat", sum := "11f8242976388005a9cf1f862d5b4b18a3cdc61661e55a347ec065961c487538", func := "marigraph/marigraphlaw11.KvPlays", spec := "kvPlays", inPlace := ["internal/bytealg.abigen_runtime_cmpstring", "internal/bytealg.Compare", "slices.overlaps[*marigraph/disk.file]", "slices.overlaps[marigraph/api.Entry]"], unfollowed := true, recurses := true, apart := false, narrowed := true }
def KvPlaysUptoSaid : Prop := kvPlaysUptoRow.holds Tryz.pinned (OpenSpec.upto kvPlaysSpec)

/-- 'marigraphlaw11.KvCrashes', WHERE WHAT IT READS IS OF BULK AT MOST 1048576: true; the input reads as it did. -/
def kvCrashesUptoRow : OpenClaim := { program := "ytbnkdnlfdofepaagreat", sum := "11f8242976388005a9cf1f862d5b4b18a3cdc61661e55a347ec065961c487538", func := "marigraph/marigraphlaw11.KvCrashes", spec := "kvCrashes", inPlace := ["internal/bytealg.abigen_runtime_cmpstring", "internal/bytealg.Compare", "slices.overlaps[*marigraph/disk.file]", "slices.overlaps[marigraph/api.Entry]"], unfollowed := true, recurses := true, apart := false, narrowed := true }
def KvCrashesUptoSaid : Prop := kvCrashesUptoRow.holds Tryz.pinned (OpenSpec.upto kvCrashesSpec)

/-- 'marigraphlaw13.UidNumbers', WHERE WHAT IT READS IS OF BULK AT MOST 1048576: true; the input reads as it did. -/
def uidNumbersUptoRow : OpenClaim := { program := "ytbnkdnlfdofepaagreat", sum := "11f8242976388005a9cf1f862d5b4b18a3cdc61661e55a347ec065961c487538", func := "marigraph/marigraphlaw13.UidNumbers", spec := "uidNumbers", inPlace := ["internal/bytealg.abigen_runtime_cmpstring", "internal/bytealg.Compare", "slices.overlaps[*marigraph/disk.file]", "slices.overlaps[marigraph/api.Entry]"], unfollowed := true, recurses := true, apart := false, narrowed := true }
def UidNumbersUptoSaid : Prop := uidNumbersUptoRow.holds Tryz.pinned (OpenSpec.upto uidNumbersSpec)

/-- 'marigraphlaw13.UidPlays', WHERE WHAT IT READS IS OF BULK AT MOST 1048576: true; the input reads as it did. -/
def uidPlaysUptoRow : OpenClaim := { program := "ytbnkdnlfdofepaagreat", sum := "11f8242976388005a9cf1f862d5b4b18a3cdc61661e55a347ec065961c487538", func := "marigraph/marigraphlaw13.UidPlays", spec := "uidPlays", inPlace := ["internal/bytealg.abigen_runtime_cmpstring", "internal/bytealg.Compare", "slices.overlaps[*marigraph/disk.file]", "slices.overlaps[marigraph/api.Entry]"], unfollowed := true, recurses := true, apart := false, narrowed := true }
def UidPlaysUptoSaid : Prop := uidPlaysUptoRow.holds Tryz.pinned (OpenSpec.upto uidPlaysSpec)

end Rows
end Go.Proofs.YtbnkdnlfdofepaaGreat
