/-
  No cell of these rows narrows 'for every input' (looked for: loops, veiled, ifaces, maps, wideKeys, modest, calm, conditions, laid).
  DERIVED. THE GIVEN ROWS OF THIS SEAT. 16 by the template 'for every input the law returns true; each argument reads behind the call as it read before'; 0 by the template 'total and deterministic' (their statements: YtmfobcejnkakpaaTotals.lean).
  GIVEN WITH THE SEED: the statements are not yours to turn. If you find one false, say at which input.
  Laid BY PROGRAM, IN A SANDBOX (cutbox-rows.mjs): the forced cells as the released guide's own fill.sh prints them over the translation 36eaff9fa9e3a52b… (all of the seat's roots in one cut). By AI agents, Wed Nov 11 2026. No macro, syntax, notation, axiom, sorry.
-/
import Derived.Test.YtmfobcejnkakpaaChecked
import GoSem.Claim
import GoSem.ClaimJoined
import GoSem.ClaimMapViews
import Derived.JoinedTies
import Derived.KernelRfl
namespace Go.Proofs.Ytmfobcejnkakpaa
/- THE CELL 'sum', in the pinned program and in every row, IS THE sha256 OF THE DUMP (.gsa) THAT YtmfobcejnkakpaaProg.lean LOADS. Nothing in Lean hashes anything: it is a label: what it is worth is what the hold of that sum in a sandbox is worth. -/
noncomputable def Try.pinned : Pinned := { name := "ytmfobcejnkakpaa", sum := "36eaff9fa9e3a52bd5e310f63ad973249fea88a38c64a28770454b8993907738", checked := Try.checked }
namespace Rows
def none {H : Type} : Left H := { results := [], args := [] }

/-- 'marigraphlaw3.DiskNames': WHATEVER THE INPUT: true; the input reads as it did. -/
def diskNamesSpec : ChangeSpec := { name := "diskNames", fn := fun _ => fun
  | [d1, d2] => { results := [.lit (.bool true)], args := [d1, d2] }
  | _ => none }
def diskNamesRow : OpenClaim := { program := "ytmfobcejnkakpaa", sum := "36eaff9fa9e3a52bd5e310f63ad973249fea88a38c64a28770454b8993907738", func := "marigraph/marigraphlaw3.DiskNames", spec := "diskNames", inPlace := ["internal/bytealg.abigen_runtime_cmpstring", "slices.overlaps[*marigraph/disk.file]"], unfollowed := true, recurses := true, apart := false }
def DiskNamesSaid : Prop := diskNamesRow.holds Try.pinned (OpenSpec.ofChange diskNamesSpec)

/-- ITS FALSE NEIGHBOUR: 'it returns false'. Refute it at one input. -/
def diskNamesWrong : ChangeSpec := { name := "diskNames", fn := fun _ => fun
  | [d1, d2] => { results := [.lit (.bool false)], args := [d1, d2] }
  | _ => none }
def DiskNamesWrongFalsely : Prop := diskNamesRow.holds Try.pinned (OpenSpec.ofChange diskNamesWrong)

/-- 'marigraphlaw3.DiskKeeps': WHATEVER THE INPUT: true; the input reads as it did. -/
def diskKeepsSpec : ChangeSpec := { name := "diskKeeps", fn := fun _ => fun
  | [d1, d2, d3, d4] => { results := [.lit (.bool true)], args := [d1, d2, d3, d4] }
  | _ => none }
def diskKeepsRow : OpenClaim := { program := "ytmfobcejnkakpaa", sum := "36eaff9fa9e3a52bd5e310f63ad973249fea88a38c64a28770454b8993907738", func := "marigraph/marigraphlaw3.DiskKeeps", spec := "diskKeeps", inPlace := ["internal/bytealg.abigen_runtime_cmpstring", "slices.overlaps[*marigraph/disk.file]"], unfollowed := true, recurses := true, apart := false }
def DiskKeepsSaid : Prop := diskKeepsRow.holds Try.pinned (OpenSpec.ofChange diskKeepsSpec)

/-- ITS FALSE NEIGHBOUR: 'it returns false'. Refute it at one input. -/
def diskKeepsWrong : ChangeSpec := { name := "diskKeeps", fn := fun _ => fun
  | [d1, d2, d3, d4] => { results := [.lit (.bool false)], args := [d1, d2, d3, d4] }
  | _ => none }
def DiskKeepsWrongFalsely : Prop := diskKeepsRow.holds Try.pinned (OpenSpec.ofChange diskKeepsWrong)

/-- 'marigraphlaw3.DiskLimits': WHATEVER THE INPUT: true; the input reads as it did. -/
def diskLimitsSpec : ChangeSpec := { name := "diskLimits", fn := fun _ => fun
  | [d1, d2] => { results := [.lit (.bool true)], args := [d1, d2] }
  | _ => none }
def diskLimitsRow : OpenClaim := { program := "ytmfobcejnkakpaa", sum := "36eaff9fa9e3a52bd5e310f63ad973249fea88a38c64a28770454b8993907738", func := "marigraph/marigraphlaw3.DiskLimits", spec := "diskLimits", inPlace := ["internal/bytealg.abigen_runtime_cmpstring", "slices.overlaps[*marigraph/disk.file]"], unfollowed := true, recurses := true, apart := false }
def DiskLimitsSaid : Prop := diskLimitsRow.holds Try.pinned (OpenSpec.ofChange diskLimitsSpec)

/-- ITS FALSE NEIGHBOUR: 'it returns false'. Refute it at one input. -/
def diskLimitsWrong : ChangeSpec := { name := "diskLimits", fn := fun _ => fun
  | [d1, d2] => { results := [.lit (.bool false)], args := [d1, d2] }
  | _ => none }
def DiskLimitsWrongFalsely : Prop := diskLimitsRow.holds Try.pinned (OpenSpec.ofChange diskLimitsWrong)

/-- 'marigraphlaw3.DiskDowns': WHATEVER THE INPUT: true; the input reads as it did. -/
def diskDownsSpec : ChangeSpec := { name := "diskDowns", fn := fun _ => fun
  | [d1, d2, d3] => { results := [.lit (.bool true)], args := [d1, d2, d3] }
  | _ => none }
def diskDownsRow : OpenClaim := { program := "ytmfobcejnkakpaa", sum := "36eaff9fa9e3a52bd5e310f63ad973249fea88a38c64a28770454b8993907738", func := "marigraph/marigraphlaw3.DiskDowns", spec := "diskDowns", inPlace := ["internal/bytealg.abigen_runtime_cmpstring", "slices.overlaps[*marigraph/disk.file]"], unfollowed := true, recurses := true, apart := false }
def DiskDownsSaid : Prop := diskDownsRow.holds Try.pinned (OpenSpec.ofChange diskDownsSpec)

/-- ITS FALSE NEIGHBOUR: 'it returns false'. Refute it at one input. -/
def diskDownsWrong : ChangeSpec := { name := "diskDowns", fn := fun _ => fun
  | [d1, d2, d3] => { results := [.lit (.bool false)], args := [d1, d2, d3] }
  | _ => none }
def DiskDownsWrongFalsely : Prop := diskDownsRow.holds Try.pinned (OpenSpec.ofChange diskDownsWrong)

/-- 'marigraphlaw3.DiskNumbers': WHATEVER THE INPUT: true; the input reads as it did. -/
def diskNumbersSpec : ChangeSpec := { name := "diskNumbers", fn := fun _ => fun
  | [] => { results := [.lit (.bool true)], args := [] }
  | _ => none }
def diskNumbersRow : OpenClaim := { program := "ytmfobcejnkakpaa", sum := "36eaff9fa9e3a52bd5e310f63ad973249fea88a38c64a28770454b8993907738", func := "marigraph/marigraphlaw3.DiskNumbers", spec := "diskNumbers", inPlace := ["internal/bytealg.abigen_runtime_cmpstring", "slices.overlaps[*marigraph/disk.file]"], unfollowed := true, recurses := true, apart := false }
def DiskNumbersSaid : Prop := diskNumbersRow.holds Try.pinned (OpenSpec.ofChange diskNumbersSpec)

/-- ITS FALSE NEIGHBOUR: 'it returns false'. Refute it at one input. -/
def diskNumbersWrong : ChangeSpec := { name := "diskNumbers", fn := fun _ => fun
  | [] => { results := [.lit (.bool false)], args := [] }
  | _ => none }
def DiskNumbersWrongFalsely : Prop := diskNumbersRow.holds Try.pinned (OpenSpec.ofChange diskNumbersWrong)

/-- 'marigraphlaw3.DiskPlays': WHATEVER THE INPUT: true; the input reads as it did. -/
def diskPlaysSpec : ChangeSpec := { name := "diskPlays", fn := fun _ => fun
  | [d1, d2] => { results := [.lit (.bool true)], args := [d1, d2] }
  | _ => none }
def diskPlaysRow : OpenClaim := { program := "ytmfobcejnkakpaa", sum := "36eaff9fa9e3a52bd5e310f63ad973249fea88a38c64a28770454b8993907738", func := "marigraph/marigraphlaw3.DiskPlays", spec := "diskPlays", inPlace := ["internal/bytealg.abigen_runtime_cmpstring", "slices.overlaps[*marigraph/disk.file]"], unfollowed := true, recurses := true, apart := false }
def DiskPlaysSaid : Prop := diskPlaysRow.holds Try.pinned (OpenSpec.ofChange diskPlaysSpec)

/-- ITS FALSE NEIGHBOUR: 'it returns false'. Refute it at one input. -/
def diskPlaysWrong : ChangeSpec := { name := "diskPlays", fn := fun _ => fun
  | [d1, d2] => { results := [.lit (.bool false)], args := [d1, d2] }
  | _ => none }
def DiskPlaysWrongFalsely : Prop := diskPlaysRow.holds Try.pinned (OpenSpec.ofChange diskPlaysWrong)

/-- 'marigraphlaw5.WalCrashes': WHATEVER THE INPUT: true; the input reads as it did. -/
def walCrashesSpec : ChangeSpec := { name := "walCrashes", fn := fun _ => fun
  | [d1, d2, d3] => { results := [.lit (.bool true)], args := [d1, d2, d3] }
  | _ => none }
def walCrashesRow : OpenClaim := { program := "ytmfobcejnkakpaa", sum := "36eaff9fa9e3a52bd5e310f63ad973249fea88a38c64a28770454b8993907738", func := "marigraph/marigraphlaw5.WalCrashes", spec := "walCrashes", inPlace := ["internal/bytealg.abigen_runtime_cmpstring", "slices.overlaps[*marigraph/disk.file]"], unfollowed := true, recurses := true, apart := false }
def WalCrashesSaid : Prop := walCrashesRow.holds Try.pinned (OpenSpec.ofChange walCrashesSpec)

/-- ITS FALSE NEIGHBOUR: 'it returns false'. Refute it at one input. -/
def walCrashesWrong : ChangeSpec := { name := "walCrashes", fn := fun _ => fun
  | [d1, d2, d3] => { results := [.lit (.bool false)], args := [d1, d2, d3] }
  | _ => none }
def WalCrashesWrongFalsely : Prop := walCrashesRow.holds Try.pinned (OpenSpec.ofChange walCrashesWrong)

/-- 'marigraphlaw5.WalOpens': WHATEVER THE INPUT: true; the input reads as it did. -/
def walOpensSpec : ChangeSpec := { name := "walOpens", fn := fun _ => fun
  | [d1, d2, d3, d4, d5] => { results := [.lit (.bool true)], args := [d1, d2, d3, d4, d5] }
  | _ => none }
def walOpensRow : OpenClaim := { program := "ytmfobcejnkakpaa", sum := "36eaff9fa9e3a52bd5e310f63ad973249fea88a38c64a28770454b8993907738", func := "marigraph/marigraphlaw5.WalOpens", spec := "walOpens", inPlace := ["internal/bytealg.abigen_runtime_cmpstring", "slices.overlaps[*marigraph/disk.file]"], unfollowed := true, recurses := true, apart := false }
def WalOpensSaid : Prop := walOpensRow.holds Try.pinned (OpenSpec.ofChange walOpensSpec)

/-- ITS FALSE NEIGHBOUR: 'it returns false'. Refute it at one input. -/
def walOpensWrong : ChangeSpec := { name := "walOpens", fn := fun _ => fun
  | [d1, d2, d3, d4, d5] => { results := [.lit (.bool false)], args := [d1, d2, d3, d4, d5] }
  | _ => none }
def WalOpensWrongFalsely : Prop := walOpensRow.holds Try.pinned (OpenSpec.ofChange walOpensWrong)

/-- 'marigraphlaw5.WalRefuses': WHATEVER THE INPUT: true; the input reads as it did. -/
def walRefusesSpec : ChangeSpec := { name := "walRefuses", fn := fun _ => fun
  | [d1, d2, d3] => { results := [.lit (.bool true)], args := [d1, d2, d3] }
  | _ => none }
def walRefusesRow : OpenClaim := { program := "ytmfobcejnkakpaa", sum := "36eaff9fa9e3a52bd5e310f63ad973249fea88a38c64a28770454b8993907738", func := "marigraph/marigraphlaw5.WalRefuses", spec := "walRefuses", inPlace := ["internal/bytealg.abigen_runtime_cmpstring", "slices.overlaps[*marigraph/disk.file]"], unfollowed := true, recurses := true, apart := false }
def WalRefusesSaid : Prop := walRefusesRow.holds Try.pinned (OpenSpec.ofChange walRefusesSpec)

/-- ITS FALSE NEIGHBOUR: 'it returns false'. Refute it at one input. -/
def walRefusesWrong : ChangeSpec := { name := "walRefuses", fn := fun _ => fun
  | [d1, d2, d3] => { results := [.lit (.bool false)], args := [d1, d2, d3] }
  | _ => none }
def WalRefusesWrongFalsely : Prop := walRefusesRow.holds Try.pinned (OpenSpec.ofChange walRefusesWrong)

/-- 'marigraphlaw5.WalAgain': WHATEVER THE INPUT: true; the input reads as it did. -/
def walAgainSpec : ChangeSpec := { name := "walAgain", fn := fun _ => fun
  | [d1, d2] => { results := [.lit (.bool true)], args := [d1, d2] }
  | _ => none }
def walAgainRow : OpenClaim := { program := "ytmfobcejnkakpaa", sum := "36eaff9fa9e3a52bd5e310f63ad973249fea88a38c64a28770454b8993907738", func := "marigraph/marigraphlaw5.WalAgain", spec := "walAgain", inPlace := ["internal/bytealg.abigen_runtime_cmpstring", "slices.overlaps[*marigraph/disk.file]"], unfollowed := true, recurses := true, apart := false }
def WalAgainSaid : Prop := walAgainRow.holds Try.pinned (OpenSpec.ofChange walAgainSpec)

/-- ITS FALSE NEIGHBOUR: 'it returns false'. Refute it at one input. -/
def walAgainWrong : ChangeSpec := { name := "walAgain", fn := fun _ => fun
  | [d1, d2] => { results := [.lit (.bool false)], args := [d1, d2] }
  | _ => none }
def WalAgainWrongFalsely : Prop := walAgainRow.holds Try.pinned (OpenSpec.ofChange walAgainWrong)

/-- 'marigraphlaw5.WalNumbers': WHATEVER THE INPUT: true; the input reads as it did. -/
def walNumbersSpec : ChangeSpec := { name := "walNumbers", fn := fun _ => fun
  | [] => { results := [.lit (.bool true)], args := [] }
  | _ => none }
def walNumbersRow : OpenClaim := { program := "ytmfobcejnkakpaa", sum := "36eaff9fa9e3a52bd5e310f63ad973249fea88a38c64a28770454b8993907738", func := "marigraph/marigraphlaw5.WalNumbers", spec := "walNumbers", inPlace := ["internal/bytealg.abigen_runtime_cmpstring", "slices.overlaps[*marigraph/disk.file]"], unfollowed := true, recurses := true, apart := false }
def WalNumbersSaid : Prop := walNumbersRow.holds Try.pinned (OpenSpec.ofChange walNumbersSpec)

/-- ITS FALSE NEIGHBOUR: 'it returns false'. Refute it at one input. -/
def walNumbersWrong : ChangeSpec := { name := "walNumbers", fn := fun _ => fun
  | [] => { results := [.lit (.bool false)], args := [] }
  | _ => none }
def WalNumbersWrongFalsely : Prop := walNumbersRow.holds Try.pinned (OpenSpec.ofChange walNumbersWrong)

/-- 'marigraphlaw10.ManifestTells': WHATEVER THE INPUT: true; the input reads as it did. -/
def manifestTellsSpec : ChangeSpec := { name := "manifestTells", fn := fun _ => fun
  | [d1, d2, d3, d4, d5, d6, d7, d8] => { results := [.lit (.bool true)], args := [d1, d2, d3, d4, d5, d6, d7, d8] }
  | _ => none }
def manifestTellsRow : OpenClaim := { program := "ytmfobcejnkakpaa", sum := "36eaff9fa9e3a52bd5e310f63ad973249fea88a38c64a28770454b8993907738", func := "marigraph/marigraphlaw10.ManifestTells", spec := "manifestTells", inPlace := ["internal/bytealg.abigen_runtime_cmpstring", "slices.overlaps[*marigraph/disk.file]"], unfollowed := true, recurses := true, apart := false }
def ManifestTellsSaid : Prop := manifestTellsRow.holds Try.pinned (OpenSpec.ofChange manifestTellsSpec)

/-- ITS FALSE NEIGHBOUR: 'it returns false'. Refute it at one input. -/
def manifestTellsWrong : ChangeSpec := { name := "manifestTells", fn := fun _ => fun
  | [d1, d2, d3, d4, d5, d6, d7, d8] => { results := [.lit (.bool false)], args := [d1, d2, d3, d4, d5, d6, d7, d8] }
  | _ => none }
def ManifestTellsWrongFalsely : Prop := manifestTellsRow.holds Try.pinned (OpenSpec.ofChange manifestTellsWrong)

/-- 'marigraphlaw10.ManifestReads': WHATEVER THE INPUT: true; the input reads as it did. -/
def manifestReadsSpec : ChangeSpec := { name := "manifestReads", fn := fun _ => fun
  | [d1, d2, d3, d4, d5, d6] => { results := [.lit (.bool true)], args := [d1, d2, d3, d4, d5, d6] }
  | _ => none }
def manifestReadsRow : OpenClaim := { program := "ytmfobcejnkakpaa", sum := "36eaff9fa9e3a52bd5e310f63ad973249fea88a38c64a28770454b8993907738", func := "marigraph/marigraphlaw10.ManifestReads", spec := "manifestReads", inPlace := ["internal/bytealg.abigen_runtime_cmpstring", "slices.overlaps[*marigraph/disk.file]"], unfollowed := true, recurses := true, apart := false }
def ManifestReadsSaid : Prop := manifestReadsRow.holds Try.pinned (OpenSpec.ofChange manifestReadsSpec)

/-- ITS FALSE NEIGHBOUR: 'it returns false'. Refute it at one input. -/
def manifestReadsWrong : ChangeSpec := { name := "manifestReads", fn := fun _ => fun
  | [d1, d2, d3, d4, d5, d6] => { results := [.lit (.bool false)], args := [d1, d2, d3, d4, d5, d6] }
  | _ => none }
def ManifestReadsWrongFalsely : Prop := manifestReadsRow.holds Try.pinned (OpenSpec.ofChange manifestReadsWrong)

/-- 'marigraphlaw10.ManifestChains': WHATEVER THE INPUT: true; the input reads as it did. -/
def manifestChainsSpec : ChangeSpec := { name := "manifestChains", fn := fun _ => fun
  | [d1, d2] => { results := [.lit (.bool true)], args := [d1, d2] }
  | _ => none }
def manifestChainsRow : OpenClaim := { program := "ytmfobcejnkakpaa", sum := "36eaff9fa9e3a52bd5e310f63ad973249fea88a38c64a28770454b8993907738", func := "marigraph/marigraphlaw10.ManifestChains", spec := "manifestChains", inPlace := ["internal/bytealg.abigen_runtime_cmpstring", "slices.overlaps[*marigraph/disk.file]"], unfollowed := true, recurses := true, apart := false }
def ManifestChainsSaid : Prop := manifestChainsRow.holds Try.pinned (OpenSpec.ofChange manifestChainsSpec)

/-- ITS FALSE NEIGHBOUR: 'it returns false'. Refute it at one input. -/
def manifestChainsWrong : ChangeSpec := { name := "manifestChains", fn := fun _ => fun
  | [d1, d2] => { results := [.lit (.bool false)], args := [d1, d2] }
  | _ => none }
def ManifestChainsWrongFalsely : Prop := manifestChainsRow.holds Try.pinned (OpenSpec.ofChange manifestChainsWrong)

/-- 'marigraphlaw10.ManifestNumbers': WHATEVER THE INPUT: true; the input reads as it did. -/
def manifestNumbersSpec : ChangeSpec := { name := "manifestNumbers", fn := fun _ => fun
  | [] => { results := [.lit (.bool true)], args := [] }
  | _ => none }
def manifestNumbersRow : OpenClaim := { program := "ytmfobcejnkakpaa", sum := "36eaff9fa9e3a52bd5e310f63ad973249fea88a38c64a28770454b8993907738", func := "marigraph/marigraphlaw10.ManifestNumbers", spec := "manifestNumbers", inPlace := ["internal/bytealg.abigen_runtime_cmpstring", "slices.overlaps[*marigraph/disk.file]"], unfollowed := true, recurses := true, apart := false }
def ManifestNumbersSaid : Prop := manifestNumbersRow.holds Try.pinned (OpenSpec.ofChange manifestNumbersSpec)

/-- ITS FALSE NEIGHBOUR: 'it returns false'. Refute it at one input. -/
def manifestNumbersWrong : ChangeSpec := { name := "manifestNumbers", fn := fun _ => fun
  | [] => { results := [.lit (.bool false)], args := [] }
  | _ => none }
def ManifestNumbersWrongFalsely : Prop := manifestNumbersRow.holds Try.pinned (OpenSpec.ofChange manifestNumbersWrong)

/-- 'marigraphlaw10.ManifestCrashes': WHATEVER THE INPUT: true; the input reads as it did. -/
def manifestCrashesSpec : ChangeSpec := { name := "manifestCrashes", fn := fun _ => fun
  | [d1, d2, d3, d4, d5] => { results := [.lit (.bool true)], args := [d1, d2, d3, d4, d5] }
  | _ => none }
def manifestCrashesRow : OpenClaim := { program := "ytmfobcejnkakpaa", sum := "36eaff9fa9e3a52bd5e310f63ad973249fea88a38c64a28770454b8993907738", func := "marigraph/marigraphlaw10.ManifestCrashes", spec := "manifestCrashes", inPlace := ["internal/bytealg.abigen_runtime_cmpstring", "slices.overlaps[*marigraph/disk.file]"], unfollowed := true, recurses := true, apart := false }
def ManifestCrashesSaid : Prop := manifestCrashesRow.holds Try.pinned (OpenSpec.ofChange manifestCrashesSpec)

/-- ITS FALSE NEIGHBOUR: 'it returns false'. Refute it at one input. -/
def manifestCrashesWrong : ChangeSpec := { name := "manifestCrashes", fn := fun _ => fun
  | [d1, d2, d3, d4, d5] => { results := [.lit (.bool false)], args := [d1, d2, d3, d4, d5] }
  | _ => none }
def ManifestCrashesWrongFalsely : Prop := manifestCrashesRow.holds Try.pinned (OpenSpec.ofChange manifestCrashesWrong)

/- THE SECOND FORM. 'bulk': how many values and letters a reading holds, each counted each time it is reached (what is shared counts as often as it is met; a slice's spare places count too). A statement '..UptoSaid' is the law's where the arguments, and the package variables that the reading takes, are together of bulk at most 1048576: NARROWER than '..Said'. Prove '..Said' where nothing that the law and all that it calls make is longer than what came in: it says more and counts as full. Else prove '..UptoSaid'. A law counts once. -/
mutual
def uptoBulk {H : Type} : DataW H → Nat
  | .lit (.string bytes) => bytes.length + 1
  | .lit _ => 1
  | .nil => 1
  | .ptr d => uptoBulk d + 1
  | .slice elems spare => uptoBulkAll elems + uptoBulkAll spare + 1
  | .agg parts => uptoBulkAll parts + 1
  | .iface _ d => uptoBulk d + 1
  | .map entries => uptoBulkEntries entries + 1
  | .held _ => 1
def uptoBulkAll {H : Type} : List (DataW H) → Nat
  | [] => 0
  | d :: r => uptoBulk d + uptoBulkAll r
def uptoBulkEntries {H : Type} : List (Lit × DataW H) → Nat
  | [] => 0
  | x :: r => uptoBulkEntry x + uptoBulkEntries r
def uptoBulkEntry {H : Type} : Lit × DataW H → Nat
  | (.string bytes, d) => bytes.length + uptoBulk d + 1
  | (_, d) => uptoBulk d + 1
 end
def uptoSmall : (H : Type) → List (DataW H) → Bool := fun _ ds => decide (uptoBulkAll ds ≤ 1048576)
def OpenSpec.upto (s : _root_.Go.ChangeSpec) : _root_.Go.OpenSpec := { _root_.Go.OpenSpec.ofChange s with cond := some uptoSmall }

/-- 'marigraphlaw3.DiskNames', WHERE WHAT IT READS IS OF BULK AT MOST 1048576: true; the input reads as it did. -/
def diskNamesUptoRow : OpenClaim := { program := "ytmfobcejnkakpaa", sum := "36eaff9fa9e3a52bd5e310f63ad973249fea88a38c64a28770454b8993907738", func := "marigraph/marigraphlaw3.DiskNames", spec := "diskNames", inPlace := ["internal/bytealg.abigen_runtime_cmpstring", "slices.overlaps[*marigraph/disk.file]"], unfollowed := true, recurses := true, apart := false, narrowed := true }
def DiskNamesUptoSaid : Prop := diskNamesUptoRow.holds Try.pinned (OpenSpec.upto diskNamesSpec)

/-- 'marigraphlaw3.DiskKeeps', WHERE WHAT IT READS IS OF BULK AT MOST 1048576: true; the input reads as it did. -/
def diskKeepsUptoRow : OpenClaim := { program := "ytmfobcejnkakpaa", sum := "36eaff9fa9e3a52bd5e310f63ad973249fea88a38c64a28770454b8993907738", func := "marigraph/marigraphlaw3.DiskKeeps", spec := "diskKeeps", inPlace := ["internal/bytealg.abigen_runtime_cmpstring", "slices.overlaps[*marigraph/disk.file]"], unfollowed := true, recurses := true, apart := false, narrowed := true }
def DiskKeepsUptoSaid : Prop := diskKeepsUptoRow.holds Try.pinned (OpenSpec.upto diskKeepsSpec)

/-- 'marigraphlaw3.DiskLimits', WHERE WHAT IT READS IS OF BULK AT MOST 1048576: true; the input reads as it did. -/
def diskLimitsUptoRow : OpenClaim := { program := "ytmfobcejnkakpaa", sum := "36eaff9fa9e3a52bd5e310f63ad973249fea88a38c64a28770454b8993907738", func := "marigraph/marigraphlaw3.DiskLimits", spec := "diskLimits", inPlace := ["internal/bytealg.abigen_runtime_cmpstring", "slices.overlaps[*marigraph/disk.file]"], unfollowed := true, recurses := true, apart := false, narrowed := true }
def DiskLimitsUptoSaid : Prop := diskLimitsUptoRow.holds Try.pinned (OpenSpec.upto diskLimitsSpec)

/-- 'marigraphlaw3.DiskDowns', WHERE WHAT IT READS IS OF BULK AT MOST 1048576: true; the input reads as it did. -/
def diskDownsUptoRow : OpenClaim := { program := "ytmfobcejnkakpaa", sum := "36eaff9fa9e3a52bd5e310f63ad973249fea88a38c64a28770454b8993907738", func := "marigraph/marigraphlaw3.DiskDowns", spec := "diskDowns", inPlace := ["internal/bytealg.abigen_runtime_cmpstring", "slices.overlaps[*marigraph/disk.file]"], unfollowed := true, recurses := true, apart := false, narrowed := true }
def DiskDownsUptoSaid : Prop := diskDownsUptoRow.holds Try.pinned (OpenSpec.upto diskDownsSpec)

/-- 'marigraphlaw3.DiskNumbers', WHERE WHAT IT READS IS OF BULK AT MOST 1048576: true; the input reads as it did. -/
def diskNumbersUptoRow : OpenClaim := { program := "ytmfobcejnkakpaa", sum := "36eaff9fa9e3a52bd5e310f63ad973249fea88a38c64a28770454b8993907738", func := "marigraph/marigraphlaw3.DiskNumbers", spec := "diskNumbers", inPlace := ["internal/bytealg.abigen_runtime_cmpstring", "slices.overlaps[*marigraph/disk.file]"], unfollowed := true, recurses := true, apart := false, narrowed := true }
def DiskNumbersUptoSaid : Prop := diskNumbersUptoRow.holds Try.pinned (OpenSpec.upto diskNumbersSpec)

/-- 'marigraphlaw3.DiskPlays', WHERE WHAT IT READS IS OF BULK AT MOST 1048576: true; the input reads as it did. -/
def diskPlaysUptoRow : OpenClaim := { program := "ytmfobcejnkakpaa", sum := "36eaff9fa9e3a52bd5e310f63ad973249fea88a38c64a28770454b8993907738", func := "marigraph/marigraphlaw3.DiskPlays", spec := "diskPlays", inPlace := ["internal/bytealg.abigen_runtime_cmpstring", "slices.overlaps[*marigraph/disk.file]"], unfollowed := true, recurses := true, apart := false, narrowed := true }
def DiskPlaysUptoSaid : Prop := diskPlaysUptoRow.holds Try.pinned (OpenSpec.upto diskPlaysSpec)

/-- 'marigraphlaw5.WalCrashes', WHERE WHAT IT READS IS OF BULK AT MOST 1048576: true; the input reads as it did. -/
def walCrashesUptoRow : OpenClaim := { program := "ytmfobcejnkakpaa", sum := "36eaff9fa9e3a52bd5e310f63ad973249fea88a38c64a28770454b8993907738", func := "marigraph/marigraphlaw5.WalCrashes", spec := "walCrashes", inPlace := ["internal/bytealg.abigen_runtime_cmpstring", "slices.overlaps[*marigraph/disk.file]"], unfollowed := true, recurses := true, apart := false, narrowed := true }
def WalCrashesUptoSaid : Prop := walCrashesUptoRow.holds Try.pinned (OpenSpec.upto walCrashesSpec)

/-- 'marigraphlaw5.WalOpens', WHERE WHAT IT READS IS OF BULK AT MOST 1048576: true; the input reads as it did. -/
def walOpensUptoRow : OpenClaim := { program := "ytmfobcejnkakpaa", sum := "36eaff9fa9e3a52bd5e310f63ad973249fea88a38c64a28770454b8993907738", func := "marigraph/marigraphlaw5.WalOpens", spec := "walOpens", inPlace := ["internal/bytealg.abigen_runtime_cmpstring", "slices.overlaps[*marigraph/disk.file]"], unfollowed := true, recurses := true, apart := false, narrowed := true }
def WalOpensUptoSaid : Prop := walOpensUptoRow.holds Try.pinned (OpenSpec.upto walOpensSpec)

/-- 'marigraphlaw5.WalRefuses', WHERE WHAT IT READS IS OF BULK AT MOST 1048576: true; the input reads as it did. -/
def walRefusesUptoRow : OpenClaim := { program := "ytmfobcejnkakpaa", sum := "36eaff9fa9e3a52bd5e310f63ad973249fea88a38c64a28770454b8993907738", func := "marigraph/marigraphlaw5.WalRefuses", spec := "walRefuses", inPlace := ["internal/bytealg.abigen_runtime_cmpstring", "slices.overlaps[*marigraph/disk.file]"], unfollowed := true, recurses := true, apart := false, narrowed := true }
def WalRefusesUptoSaid : Prop := walRefusesUptoRow.holds Try.pinned (OpenSpec.upto walRefusesSpec)

/-- 'marigraphlaw5.WalAgain', WHERE WHAT IT READS IS OF BULK AT MOST 1048576: true; the input reads as it did. -/
def walAgainUptoRow : OpenClaim := { program := "ytmfobcejnkakpaa", sum := "36eaff9fa9e3a52bd5e310f63ad973249fea88a38c64a28770454b8993907738", func := "marigraph/marigraphlaw5.WalAgain", spec := "walAgain", inPlace := ["internal/bytealg.abigen_runtime_cmpstring", "slices.overlaps[*marigraph/disk.file]"], unfollowed := true, recurses := true, apart := false, narrowed := true }
def WalAgainUptoSaid : Prop := walAgainUptoRow.holds Try.pinned (OpenSpec.upto walAgainSpec)

/-- 'marigraphlaw5.WalNumbers', WHERE WHAT IT READS IS OF BULK AT MOST 1048576: true; the input reads as it did. -/
def walNumbersUptoRow : OpenClaim := { program := "ytmfobcejnkakpaa", sum := "36eaff9fa9e3a52bd5e310f63ad973249fea88a38c64a28770454b8993907738", func := "marigraph/marigraphlaw5.WalNumbers", spec := "walNumbers", inPlace := ["internal/bytealg.abigen_runtime_cmpstring", "slices.overlaps[*marigraph/disk.file]"], unfollowed := true, recurses := true, apart := false, narrowed := true }
def WalNumbersUptoSaid : Prop := walNumbersUptoRow.holds Try.pinned (OpenSpec.upto walNumbersSpec)

/-- 'marigraphlaw10.ManifestTells', WHERE WHAT IT READS IS OF BULK AT MOST 1048576: true; the input reads as it did. -/
def manifestTellsUptoRow : OpenClaim := { program := "ytmfobcejnkakpaa", sum := "36eaff9fa9e3a52bd5e310f63ad973249fea88a38c64a28770454b8993907738", func := "marigraph/marigraphlaw10.ManifestTells", spec := "manifestTells", inPlace := ["internal/bytealg.abigen_runtime_cmpstring", "slices.overlaps[*marigraph/disk.file]"], unfollowed := true, recurses := true, apart := false, narrowed := true }
def ManifestTellsUptoSaid : Prop := manifestTellsUptoRow.holds Try.pinned (OpenSpec.upto manifestTellsSpec)

/-- 'marigraphlaw10.ManifestReads', WHERE WHAT IT READS IS OF BULK AT MOST 1048576: true; the input reads as it did. -/
def manifestReadsUptoRow : OpenClaim := { program := "ytmfobcejnkakpaa", sum := "36eaff9fa9e3a52bd5e310f63ad973249fea88a38c64a28770454b8993907738", func := "marigraph/marigraphlaw10.ManifestReads", spec := "manifestReads", inPlace := ["internal/bytealg.abigen_runtime_cmpstring", "slices.overlaps[*marigraph/disk.file]"], unfollowed := true, recurses := true, apart := false, narrowed := true }
def ManifestReadsUptoSaid : Prop := manifestReadsUptoRow.holds Try.pinned (OpenSpec.upto manifestReadsSpec)

/-- 'marigraphlaw10.ManifestChains', WHERE WHAT IT READS IS OF BULK AT MOST 1048576: true; the input reads as it did. -/
def manifestChainsUptoRow : OpenClaim := { program := "ytmfobcejnkakpaa", sum := "36eaff9fa9e3a52bd5e310f63ad973249fea88a38c64a28770454b8993907738", func := "marigraph/marigraphlaw10.ManifestChains", spec := "manifestChains", inPlace := ["internal/bytealg.abigen_runtime_cmpstring", "slices.overlaps[*marigraph/disk.file]"], unfollowed := true, recurses := true, apart := false, narrowed := true }
def ManifestChainsUptoSaid : Prop := manifestChainsUptoRow.holds Try.pinned (OpenSpec.upto manifestChainsSpec)

/-- 'marigraphlaw10.ManifestNumbers', WHERE WHAT IT READS IS OF BULK AT MOST 1048576: true; the input reads as it did. -/
def manifestNumbersUptoRow : OpenClaim := { program := "ytmfobcejnkakpaa", sum := "36eaff9fa9e3a52bd5e310f63ad973249fea88a38c64a28770454b8993907738", func := "marigraph/marigraphlaw10.ManifestNumbers", spec := "manifestNumbers", inPlace := ["internal/bytealg.abigen_runtime_cmpstring", "slices.overlaps[*marigraph/disk.file]"], unfollowed := true, recurses := true, apart := false, narrowed := true }
def ManifestNumbersUptoSaid : Prop := manifestNumbersUptoRow.holds Try.pinned (OpenSpec.upto manifestNumbersSpec)

/-- 'marigraphlaw10.ManifestCrashes', WHERE WHAT IT READS IS OF BULK AT MOST 1048576: true; the input reads as it did. -/
def manifestCrashesUptoRow : OpenClaim := { program := "ytmfobcejnkakpaa", sum := "36eaff9fa9e3a52bd5e310f63ad973249fea88a38c64a28770454b8993907738", func := "marigraph/marigraphlaw10.ManifestCrashes", spec := "manifestCrashes", inPlace := ["internal/bytealg.abigen_runtime_cmpstring", "slices.overlaps[*marigraph/disk.file]"], unfollowed := true, recurses := true, apart := false, narrowed := true }
def ManifestCrashesUptoSaid : Prop := manifestCrashesUptoRow.holds Try.pinned (OpenSpec.upto manifestCrashesSpec)

end Rows
end Go.Proofs.Ytmfobcejnkakpaa
