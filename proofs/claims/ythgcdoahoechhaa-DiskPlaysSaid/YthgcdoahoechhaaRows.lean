/-
  No cell of these rows narrows 'for every input' (looked for: loops, veiled, ifaces, maps, wideKeys, modest, calm, conditions, laid).
  DERIVED. THE GIVEN ROWS OF THIS SEAT. 9 by the template 'for every input the law returns true; each argument reads behind the call as it read before'; 0 by the template 'total and deterministic' (their statements: YthgcdoahoechhaaTotals.lean).
  GIVEN WITH THE SEED: the statements are not yours to turn. If you find one false, say at which input.
  Laid BY PROGRAM, IN A SANDBOX (cutbox-rows.mjs): the forced cells as the released guide's own fill.sh prints them over the translation 717acf1987874439… (all of the seat's roots in one cut). By AI agents, Wed Nov 11 2026. No macro, syntax, notation, axiom, sorry.
-/
import Derived.Test.YthgcdoahoechhaaChecked
import GoSem.Claim
import GoSem.ClaimJoined
import GoSem.ClaimMapViews
import Derived.JoinedTies
import Derived.KernelRfl
namespace Go.Proofs.Ythgcdoahoechhaa
/- THE CELL 'sum', in the pinned program and in every row, IS THE sha256 OF THE DUMP (.gsa) THAT YthgcdoahoechhaaProg.lean LOADS. Nothing in Lean hashes anything: it is a label: what it is worth is what the hold of that sum in a sandbox is worth. -/
noncomputable def Try.pinned : Pinned := { name := "ythgcdoahoechhaa", sum := "717acf1987874439a5fd1b48887914203677f97d452fccec13001b63b1ed4a67", checked := Try.checked }
namespace Rows
def none {H : Type} : Left H := { results := [], args := [] }

/-- 'marigraphlaw3.DiskPlays': WHATEVER THE INPUT: true; the input reads as it did. -/
def diskPlaysSpec : ChangeSpec := { name := "diskPlays", fn := fun _ => fun
  | [d1, d2] => { results := [.lit (.bool true)], args := [d1, d2] }
  | _ => none }
def diskPlaysRow : OpenClaim := { program := "ythgcdoahoechhaa", sum := "717acf1987874439a5fd1b48887914203677f97d452fccec13001b63b1ed4a67", func := "marigraph/marigraphlaw3.DiskPlays", spec := "diskPlays", inPlace := ["internal/bytealg.abigen_runtime_cmpstring", "slices.overlaps[*marigraph/disk.file]"], unfollowed := true, recurses := true, apart := false }
def DiskPlaysSaid : Prop := diskPlaysRow.holds Try.pinned (OpenSpec.ofChange diskPlaysSpec)

/-- ITS FALSE NEIGHBOUR: 'it returns false'. Refute it at one input. -/
def diskPlaysWrong : ChangeSpec := { name := "diskPlays", fn := fun _ => fun
  | [d1, d2] => { results := [.lit (.bool false)], args := [d1, d2] }
  | _ => none }
def DiskPlaysWrongFalsely : Prop := diskPlaysRow.holds Try.pinned (OpenSpec.ofChange diskPlaysWrong)

/-- 'marigraphlaw5.WalCrashes': WHATEVER THE INPUT: true; the input reads as it did. -/
def walCrashesSpec : ChangeSpec := { name := "walCrashes", fn := fun _ => fun
  | [d1, d2, d3] => { results := [.lit (.bool true)], args := [d1, d2, d3] }
  | _ => none }
def walCrashesRow : OpenClaim := { program := "ythgcdoahoechhaa", sum := "717acf1987874439a5fd1b48887914203677f97d452fccec13001b63b1ed4a67", func := "marigraph/marigraphlaw5.WalCrashes", spec := "walCrashes", inPlace := ["internal/bytealg.abigen_runtime_cmpstring", "slices.overlaps[*marigraph/disk.file]"], unfollowed := true, recurses := true, apart := false }
def WalCrashesSaid : Prop := walCrashesRow.holds Try.pinned (OpenSpec.ofChange walCrashesSpec)

/-- ITS FALSE NEIGHBOUR: 'it returns false'. Refute it at one input. -/
def walCrashesWrong : ChangeSpec := { name := "walCrashes", fn := fun _ => fun
  | [d1, d2, d3] => { results := [.lit (.bool false)], args := [d1, d2, d3] }
  | _ => none }
def WalCrashesWrongFalsely : Prop := walCrashesRow.holds Try.pinned (OpenSpec.ofChange walCrashesWrong)

/-- 'marigraphlaw5.WalOpens': WHATEVER THE INPUT: true; the input reads as it did. -/
def walOpensSpec : ChangeSpec := { name := "walOpens", fn := fun _ => fun
  | [d1, d2, d3, d4, d5] => { results := [.lit (.bool true)], args := [d1, d2, d3, d4, d5] }
  | _ => none }
def walOpensRow : OpenClaim := { program := "ythgcdoahoechhaa", sum := "717acf1987874439a5fd1b48887914203677f97d452fccec13001b63b1ed4a67", func := "marigraph/marigraphlaw5.WalOpens", spec := "walOpens", inPlace := ["internal/bytealg.abigen_runtime_cmpstring", "slices.overlaps[*marigraph/disk.file]"], unfollowed := true, recurses := true, apart := false }
def WalOpensSaid : Prop := walOpensRow.holds Try.pinned (OpenSpec.ofChange walOpensSpec)

/-- ITS FALSE NEIGHBOUR: 'it returns false'. Refute it at one input. -/
def walOpensWrong : ChangeSpec := { name := "walOpens", fn := fun _ => fun
  | [d1, d2, d3, d4, d5] => { results := [.lit (.bool false)], args := [d1, d2, d3, d4, d5] }
  | _ => none }
def WalOpensWrongFalsely : Prop := walOpensRow.holds Try.pinned (OpenSpec.ofChange walOpensWrong)

/-- 'marigraphlaw5.WalRefuses': WHATEVER THE INPUT: true; the input reads as it did. -/
def walRefusesSpec : ChangeSpec := { name := "walRefuses", fn := fun _ => fun
  | [d1, d2, d3] => { results := [.lit (.bool true)], args := [d1, d2, d3] }
  | _ => none }
def walRefusesRow : OpenClaim := { program := "ythgcdoahoechhaa", sum := "717acf1987874439a5fd1b48887914203677f97d452fccec13001b63b1ed4a67", func := "marigraph/marigraphlaw5.WalRefuses", spec := "walRefuses", inPlace := ["internal/bytealg.abigen_runtime_cmpstring", "slices.overlaps[*marigraph/disk.file]"], unfollowed := true, recurses := true, apart := false }
def WalRefusesSaid : Prop := walRefusesRow.holds Try.pinned (OpenSpec.ofChange walRefusesSpec)

/-- ITS FALSE NEIGHBOUR: 'it returns false'. Refute it at one input. -/
def walRefusesWrong : ChangeSpec := { name := "walRefuses", fn := fun _ => fun
  | [d1, d2, d3] => { results := [.lit (.bool false)], args := [d1, d2, d3] }
  | _ => none }
def WalRefusesWrongFalsely : Prop := walRefusesRow.holds Try.pinned (OpenSpec.ofChange walRefusesWrong)

/-- 'marigraphlaw5.WalAgain': WHATEVER THE INPUT: true; the input reads as it did. -/
def walAgainSpec : ChangeSpec := { name := "walAgain", fn := fun _ => fun
  | [d1, d2] => { results := [.lit (.bool true)], args := [d1, d2] }
  | _ => none }
def walAgainRow : OpenClaim := { program := "ythgcdoahoechhaa", sum := "717acf1987874439a5fd1b48887914203677f97d452fccec13001b63b1ed4a67", func := "marigraph/marigraphlaw5.WalAgain", spec := "walAgain", inPlace := ["internal/bytealg.abigen_runtime_cmpstring", "slices.overlaps[*marigraph/disk.file]"], unfollowed := true, recurses := true, apart := false }
def WalAgainSaid : Prop := walAgainRow.holds Try.pinned (OpenSpec.ofChange walAgainSpec)

/-- ITS FALSE NEIGHBOUR: 'it returns false'. Refute it at one input. -/
def walAgainWrong : ChangeSpec := { name := "walAgain", fn := fun _ => fun
  | [d1, d2] => { results := [.lit (.bool false)], args := [d1, d2] }
  | _ => none }
def WalAgainWrongFalsely : Prop := walAgainRow.holds Try.pinned (OpenSpec.ofChange walAgainWrong)

/-- 'marigraphlaw10.ManifestTells': WHATEVER THE INPUT: true; the input reads as it did. -/
def manifestTellsSpec : ChangeSpec := { name := "manifestTells", fn := fun _ => fun
  | [d1, d2, d3, d4, d5, d6, d7, d8] => { results := [.lit (.bool true)], args := [d1, d2, d3, d4, d5, d6, d7, d8] }
  | _ => none }
def manifestTellsRow : OpenClaim := { program := "ythgcdoahoechhaa", sum := "717acf1987874439a5fd1b48887914203677f97d452fccec13001b63b1ed4a67", func := "marigraph/marigraphlaw10.ManifestTells", spec := "manifestTells", inPlace := ["internal/bytealg.abigen_runtime_cmpstring", "slices.overlaps[*marigraph/disk.file]"], unfollowed := true, recurses := true, apart := false }
def ManifestTellsSaid : Prop := manifestTellsRow.holds Try.pinned (OpenSpec.ofChange manifestTellsSpec)

/-- ITS FALSE NEIGHBOUR: 'it returns false'. Refute it at one input. -/
def manifestTellsWrong : ChangeSpec := { name := "manifestTells", fn := fun _ => fun
  | [d1, d2, d3, d4, d5, d6, d7, d8] => { results := [.lit (.bool false)], args := [d1, d2, d3, d4, d5, d6, d7, d8] }
  | _ => none }
def ManifestTellsWrongFalsely : Prop := manifestTellsRow.holds Try.pinned (OpenSpec.ofChange manifestTellsWrong)

/-- 'marigraphlaw10.ManifestReads': WHATEVER THE INPUT: true; the input reads as it did. -/
def manifestReadsSpec : ChangeSpec := { name := "manifestReads", fn := fun _ => fun
  | [d1, d2, d3, d4, d5, d6] => { results := [.lit (.bool true)], args := [d1, d2, d3, d4, d5, d6] }
  | _ => none }
def manifestReadsRow : OpenClaim := { program := "ythgcdoahoechhaa", sum := "717acf1987874439a5fd1b48887914203677f97d452fccec13001b63b1ed4a67", func := "marigraph/marigraphlaw10.ManifestReads", spec := "manifestReads", inPlace := ["internal/bytealg.abigen_runtime_cmpstring", "slices.overlaps[*marigraph/disk.file]"], unfollowed := true, recurses := true, apart := false }
def ManifestReadsSaid : Prop := manifestReadsRow.holds Try.pinned (OpenSpec.ofChange manifestReadsSpec)

/-- ITS FALSE NEIGHBOUR: 'it returns false'. Refute it at one input. -/
def manifestReadsWrong : ChangeSpec := { name := "manifestReads", fn := fun _ => fun
  | [d1, d2, d3, d4, d5, d6] => { results := [.lit (.bool false)], args := [d1, d2, d3, d4, d5, d6] }
  | _ => none }
def ManifestReadsWrongFalsely : Prop := manifestReadsRow.holds Try.pinned (OpenSpec.ofChange manifestReadsWrong)

/-- 'marigraphlaw10.ManifestChains': WHATEVER THE INPUT: true; the input reads as it did. -/
def manifestChainsSpec : ChangeSpec := { name := "manifestChains", fn := fun _ => fun
  | [d1, d2] => { results := [.lit (.bool true)], args := [d1, d2] }
  | _ => none }
def manifestChainsRow : OpenClaim := { program := "ythgcdoahoechhaa", sum := "717acf1987874439a5fd1b48887914203677f97d452fccec13001b63b1ed4a67", func := "marigraph/marigraphlaw10.ManifestChains", spec := "manifestChains", inPlace := ["internal/bytealg.abigen_runtime_cmpstring", "slices.overlaps[*marigraph/disk.file]"], unfollowed := true, recurses := true, apart := false }
def ManifestChainsSaid : Prop := manifestChainsRow.holds Try.pinned (OpenSpec.ofChange manifestChainsSpec)

/-- ITS FALSE NEIGHBOUR: 'it returns false'. Refute it at one input. -/
def manifestChainsWrong : ChangeSpec := { name := "manifestChains", fn := fun _ => fun
  | [d1, d2] => { results := [.lit (.bool false)], args := [d1, d2] }
  | _ => none }
def ManifestChainsWrongFalsely : Prop := manifestChainsRow.holds Try.pinned (OpenSpec.ofChange manifestChainsWrong)

/-- 'marigraphlaw10.ManifestCrashes': WHATEVER THE INPUT: true; the input reads as it did. -/
def manifestCrashesSpec : ChangeSpec := { name := "manifestCrashes", fn := fun _ => fun
  | [d1, d2, d3, d4, d5] => { results := [.lit (.bool true)], args := [d1, d2, d3, d4, d5] }
  | _ => none }
def manifestCrashesRow : OpenClaim := { program := "ythgcdoahoechhaa", sum := "717acf1987874439a5fd1b48887914203677f97d452fccec13001b63b1ed4a67", func := "marigraph/marigraphlaw10.ManifestCrashes", spec := "manifestCrashes", inPlace := ["internal/bytealg.abigen_runtime_cmpstring", "slices.overlaps[*marigraph/disk.file]"], unfollowed := true, recurses := true, apart := false }
def ManifestCrashesSaid : Prop := manifestCrashesRow.holds Try.pinned (OpenSpec.ofChange manifestCrashesSpec)

/-- ITS FALSE NEIGHBOUR: 'it returns false'. Refute it at one input. -/
def manifestCrashesWrong : ChangeSpec := { name := "manifestCrashes", fn := fun _ => fun
  | [d1, d2, d3, d4, d5] => { results := [.lit (.bool false)], args := [d1, d2, d3, d4, d5] }
  | _ => none }
def ManifestCrashesWrongFalsely : Prop := manifestCrashesRow.holds Try.pinned (OpenSpec.ofChange manifestCrashesWrong)

/- THE SECOND FORM. 'bulk': how many values and letters a reading holds, each counted each time it is reached (what is shared counts as often as it is met; a slice's spare places count too). A statement '..UptoSaid' is the law's where the arguments, and the package variables that the reading takes, are together of bulk at most 1048576: NARROWER than '..Said'. Prove '..Said' where nothing that the law and all that it calls make is longer than what came in: it says more and counts as full. Else prove '..UptoSaid'. A law counts once. -/
mutual
def uptoBulk {H : Type} : DataW H → Nat
  | .lit (.string bytes) => bytes.length + 1
  | .lit _ => 1
  | .nil => 1
  | .ptr d => uptoBulk d + 1
  | .slice elems spare => uptoBulkAll elems + uptoBulkAll spare + 1
  | .agg parts => uptoBulkAll parts + 1
  | .iface _ d => uptoBulk d + 1
  | .map entries => uptoBulkEntries entries + 1
  | .held _ => 1
def uptoBulkAll {H : Type} : List (DataW H) → Nat
  | [] => 0
  | d :: r => uptoBulk d + uptoBulkAll r
def uptoBulkEntries {H : Type} : List (Lit × DataW H) → Nat
  | [] => 0
  | x :: r => uptoBulkEntry x + uptoBulkEntries r
def uptoBulkEntry {H : Type} : Lit × DataW H → Nat
  | (.string bytes, d) => bytes.length + uptoBulk d + 1
  | (_, d) => uptoBulk d + 1
 end
def uptoSmall : (H : Type) → List (DataW H) → Bool := fun _ ds => decide (uptoBulkAll ds ≤ 1048576)
def OpenSpec.upto (s : _root_.Go.ChangeSpec) : _root_.Go.OpenSpec := { _root_.Go.OpenSpec.ofChange s with cond := some uptoSmall }

/-- 'marigraphlaw3.DiskPlays', WHERE WHAT IT READS IS OF BULK AT MOST 1048576: true; the input reads as it did. -/
def diskPlaysUptoRow : OpenClaim := { program := "ythgcdoahoechhaa", sum := "717acf1987874439a5fd1b48887914203677f97d452fccec13001b63b1ed4a67", func := "marigraph/marigraphlaw3.DiskPlays", spec := "diskPlays", inPlace := ["internal/bytealg.abigen_runtime_cmpstring", "slices.overlaps[*marigraph/disk.file]"], unfollowed := true, recurses := true, apart := false, narrowed := true }
def DiskPlaysUptoSaid : Prop := diskPlaysUptoRow.holds Try.pinned (OpenSpec.upto diskPlaysSpec)

/-- 'marigraphlaw5.WalCrashes', WHERE WHAT IT READS IS OF BULK AT MOST 1048576: true; the input reads as it did. -/
def walCrashesUptoRow : OpenClaim := { program := "ythgcdoahoechhaa", sum := "717acf1987874439a5fd1b48887914203677f97d452fccec13001b63b1ed4a67", func := "marigraph/marigraphlaw5.WalCrashes", spec := "walCrashes", inPlace := ["internal/bytealg.abigen_runtime_cmpstring", "slices.overlaps[*marigraph/disk.file]"], unfollowed := true, recurses := true, apart := false, narrowed := true }
def WalCrashesUptoSaid : Prop := walCrashesUptoRow.holds Try.pinned (OpenSpec.upto walCrashesSpec)

/-- 'marigraphlaw5.WalOpens', WHERE WHAT IT READS IS OF BULK AT MOST 1048576: true; the input reads as it did. -/
def walOpensUptoRow : OpenClaim := { program := "ythgcdoahoechhaa", sum := "717acf1987874439a5fd1b48887914203677f97d452fccec13001b63b1ed4a67", func := "marigraph/marigraphlaw5.WalOpens", spec := "walOpens", inPlace := ["internal/bytealg.abigen_runtime_cmpstring", "slices.overlaps[*marigraph/disk.file]"], unfollowed := true, recurses := true, apart := false, narrowed := true }
def WalOpensUptoSaid : Prop := walOpensUptoRow.holds Try.pinned (OpenSpec.upto walOpensSpec)

/-- 'marigraphlaw5.WalRefuses', WHERE WHAT IT READS IS OF BULK AT MOST 1048576: true; the input reads as it did. -/
def walRefusesUptoRow : OpenClaim := { program := "ythgcdoahoechhaa", sum := "717acf1987874439a5fd1b48887914203677f97d452fccec13001b63b1ed4a67", func := "marigraph/marigraphlaw5.WalRefuses", spec := "walRefuses", inPlace := ["internal/bytealg.abigen_runtime_cmpstring", "slices.overlaps[*marigraph/disk.file]"], unfollowed := true, recurses := true, apart := false, narrowed := true }
def WalRefusesUptoSaid : Prop := walRefusesUptoRow.holds Try.pinned (OpenSpec.upto walRefusesSpec)

/-- 'marigraphlaw5.WalAgain', WHERE WHAT IT READS IS OF BULK AT MOST 1048576: true; the input reads as it did. -/
def walAgainUptoRow : OpenClaim := { program := "ythgcdoahoechhaa", sum := "717acf1987874439a5fd1b48887914203677f97d452fccec13001b63b1ed4a67", func := "marigraph/marigraphlaw5.WalAgain", spec := "walAgain", inPlace := ["internal/bytealg.abigen_runtime_cmpstring", "slices.overlaps[*marigraph/disk.file]"], unfollowed := true, recurses := true, apart := false, narrowed := true }
def WalAgainUptoSaid : Prop := walAgainUptoRow.holds Try.pinned (OpenSpec.upto walAgainSpec)

/-- 'marigraphlaw10.ManifestTells', WHERE WHAT IT READS IS OF BULK AT MOST 1048576: true; the input reads as it did. -/
def manifestTellsUptoRow : OpenClaim := { program := "ythgcdoahoechhaa", sum := "717acf1987874439a5fd1b48887914203677f97d452fccec13001b63b1ed4a67", func := "marigraph/marigraphlaw10.ManifestTells", spec := "manifestTells", inPlace := ["internal/bytealg.abigen_runtime_cmpstring", "slices.overlaps[*marigraph/disk.file]"], unfollowed := true, recurses := true, apart := false, narrowed := true }
def ManifestTellsUptoSaid : Prop := manifestTellsUptoRow.holds Try.pinned (OpenSpec.upto manifestTellsSpec)

/-- 'marigraphlaw10.ManifestReads', WHERE WHAT IT READS IS OF BULK AT MOST 1048576: true; the input reads as it did. -/
def manifestReadsUptoRow : OpenClaim := { program := "ythgcdoahoechhaa", sum := "717acf1987874439a5fd1b48887914203677f97d452fccec13001b63b1ed4a67", func := "marigraph/marigraphlaw10.ManifestReads", spec := "manifestReads", inPlace := ["internal/bytealg.abigen_runtime_cmpstring", "slices.overlaps[*marigraph/disk.file]"], unfollowed := true, recurses := true, apart := false, narrowed := true }
def ManifestReadsUptoSaid : Prop := manifestReadsUptoRow.holds Try.pinned (OpenSpec.upto manifestReadsSpec)

/-- 'marigraphlaw10.ManifestChains', WHERE WHAT IT READS IS OF BULK AT MOST 1048576: true; the input reads as it did. -/
def manifestChainsUptoRow : OpenClaim := { program := "ythgcdoahoechhaa", sum := "717acf1987874439a5fd1b48887914203677f97d452fccec13001b63b1ed4a67", func := "marigraph/marigraphlaw10.ManifestChains", spec := "manifestChains", inPlace := ["internal/bytealg.abigen_runtime_cmpstring", "slices.overlaps[*marigraph/disk.file]"], unfollowed := true, recurses := true, apart := false, narrowed := true }
def ManifestChainsUptoSaid : Prop := manifestChainsUptoRow.holds Try.pinned (OpenSpec.upto manifestChainsSpec)

/-- 'marigraphlaw10.ManifestCrashes', WHERE WHAT IT READS IS OF BULK AT MOST 1048576: true; the input reads as it did. -/
def manifestCrashesUptoRow : OpenClaim := { program := "ythgcdoahoechhaa", sum := "717acf1987874439a5fd1b48887914203677f97d452fccec13001b63b1ed4a67", func := "marigraph/marigraphlaw10.ManifestCrashes", spec := "manifestCrashes", inPlace := ["internal/bytealg.abigen_runtime_cmpstring", "slices.overlaps[*marigraph/disk.file]"], unfollowed := true, recurses := true, apart := false, narrowed := true }
def ManifestCrashesUptoSaid : Prop := manifestCrashesUptoRow.holds Try.pinned (OpenSpec.upto manifestCrashesSpec)

end Rows
end Go.Proofs.Ythgcdoahoechhaa
