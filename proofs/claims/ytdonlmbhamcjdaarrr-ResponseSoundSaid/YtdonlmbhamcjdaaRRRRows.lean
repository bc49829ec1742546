/-
  No cell of these rows narrows 'for every input' (looked for: loops, veiled, ifaces, maps, wideKeys, modest, calm, conditions, laid).
  DERIVED. THE GIVEN ROWS OF THIS SEAT. 8 by the template 'for every input the law returns true; each argument reads behind the call as it read before'; 0 by the template 'total and deterministic' (their statements: YtdonlmbhamcjdaaRRRTotals.lean).
  GIVEN WITH THE SEED: the statements are not yours to turn. If you find one false, say at which input.
  Laid BY PROGRAM, IN A SANDBOX (cutbox-rows.mjs): the forced cells as the released guide's own fill.sh prints them over the translation 476a3f426225bd56… (all of the seat's roots in one cut). By AI agents, Wed Nov 11 2026. No macro, syntax, notation, axiom, sorry.
-/
import Derived.Test.YtdonlmbhamcjdaaRRRChecked
import GoSem.Claim
import GoSem.ClaimJoined
import GoSem.ClaimMapViews
import Derived.JoinedTies
import Derived.KernelRfl
namespace Go.Proofs.YtdonlmbhamcjdaaRRR
/- THE CELL 'sum', in the pinned program and in every row, IS THE sha256 OF THE DUMP (.gsa) THAT YtdonlmbhamcjdaaRRRProg.lean LOADS. Nothing in Lean hashes anything: it is a label: what it is worth is what the hold of that sum in a sandbox is worth. -/
noncomputable def Try.pinned : Pinned := { name := "ytdonlmbhamcjdaarrr", sum := "476a3f426225bd5604a324cab6e612b5c1e5023fc762bbf43aef5399253d0e2f", checked := Try.checked }
namespace Rows
def none {H : Type} : Left H := { results := [], args := [] }

/-- 'tithelaw20.DemandLevels': WHATEVER THE INPUT: true; the input reads as it did. -/
def demandLevelsSpec : ChangeSpec := { name := "demandLevels", fn := fun _ => fun
  | [d1, d2, d3] => { results := [.lit (.bool true)], args := [d1, d2, d3] }
  | _ => none }
def demandLevelsRow : OpenClaim := { program := "ytdonlmbhamcjdaarrr", sum := "476a3f426225bd5604a324cab6e612b5c1e5023fc762bbf43aef5399253d0e2f", func := "tithe/tithelaw20.DemandLevels", spec := "demandLevels", unfollowed := true, recurses := true, apart := false }
def DemandLevelsSaid : Prop := demandLevelsRow.holds Try.pinned (OpenSpec.ofChange demandLevelsSpec)

/-- ITS FALSE NEIGHBOUR: 'it returns false'. Refute it at one input. -/
def demandLevelsWrong : ChangeSpec := { name := "demandLevels", fn := fun _ => fun
  | [d1, d2, d3] => { results := [.lit (.bool false)], args := [d1, d2, d3] }
  | _ => none }
def DemandLevelsWrongFalsely : Prop := demandLevelsRow.holds Try.pinned (OpenSpec.ofChange demandLevelsWrong)

/-- 'tithelaw20.DemandSerial': WHATEVER THE INPUT: true; the input reads as it did. -/
def demandSerialSpec : ChangeSpec := { name := "demandSerial", fn := fun _ => fun
  | [d1, d2] => { results := [.lit (.bool true)], args := [d1, d2] }
  | _ => none }
def demandSerialRow : OpenClaim := { program := "ytdonlmbhamcjdaarrr", sum := "476a3f426225bd5604a324cab6e612b5c1e5023fc762bbf43aef5399253d0e2f", func := "tithe/tithelaw20.DemandSerial", spec := "demandSerial", unfollowed := true, recurses := true, apart := false }
def DemandSerialSaid : Prop := demandSerialRow.holds Try.pinned (OpenSpec.ofChange demandSerialSpec)

/-- ITS FALSE NEIGHBOUR: 'it returns false'. Refute it at one input. -/
def demandSerialWrong : ChangeSpec := { name := "demandSerial", fn := fun _ => fun
  | [d1, d2] => { results := [.lit (.bool false)], args := [d1, d2] }
  | _ => none }
def DemandSerialWrongFalsely : Prop := demandSerialRow.holds Try.pinned (OpenSpec.ofChange demandSerialWrong)

/-- 'tithelaw20.DemandCounts': WHATEVER THE INPUT: true; the input reads as it did. -/
def demandCountsSpec : ChangeSpec := { name := "demandCounts", fn := fun _ => fun
  | [d1, d2] => { results := [.lit (.bool true)], args := [d1, d2] }
  | _ => none }
def demandCountsRow : OpenClaim := { program := "ytdonlmbhamcjdaarrr", sum := "476a3f426225bd5604a324cab6e612b5c1e5023fc762bbf43aef5399253d0e2f", func := "tithe/tithelaw20.DemandCounts", spec := "demandCounts", unfollowed := true, recurses := true, apart := false }
def DemandCountsSaid : Prop := demandCountsRow.holds Try.pinned (OpenSpec.ofChange demandCountsSpec)

/-- ITS FALSE NEIGHBOUR: 'it returns false'. Refute it at one input. -/
def demandCountsWrong : ChangeSpec := { name := "demandCounts", fn := fun _ => fun
  | [d1, d2] => { results := [.lit (.bool false)], args := [d1, d2] }
  | _ => none }
def DemandCountsWrongFalsely : Prop := demandCountsRow.holds Try.pinned (OpenSpec.ofChange demandCountsWrong)

/-- 'tithelaw20.DemandWindows': WHATEVER THE INPUT: true; the input reads as it did. -/
def demandWindowsSpec : ChangeSpec := { name := "demandWindows", fn := fun _ => fun
  | [d1, d2, d3] => { results := [.lit (.bool true)], args := [d1, d2, d3] }
  | _ => none }
def demandWindowsRow : OpenClaim := { program := "ytdonlmbhamcjdaarrr", sum := "476a3f426225bd5604a324cab6e612b5c1e5023fc762bbf43aef5399253d0e2f", func := "tithe/tithelaw20.DemandWindows", spec := "demandWindows", unfollowed := true, recurses := true, apart := false }
def DemandWindowsSaid : Prop := demandWindowsRow.holds Try.pinned (OpenSpec.ofChange demandWindowsSpec)

/-- ITS FALSE NEIGHBOUR: 'it returns false'. Refute it at one input. -/
def demandWindowsWrong : ChangeSpec := { name := "demandWindows", fn := fun _ => fun
  | [d1, d2, d3] => { results := [.lit (.bool false)], args := [d1, d2, d3] }
  | _ => none }
def DemandWindowsWrongFalsely : Prop := demandWindowsRow.holds Try.pinned (OpenSpec.ofChange demandWindowsWrong)

/-- 'tithelaw22.ResponseTimes': WHATEVER THE INPUT: true; the input reads as it did. -/
def responseTimesSpec : ChangeSpec := { name := "responseTimes", fn := fun _ => fun
  | [d1, d2, d3] => { results := [.lit (.bool true)], args := [d1, d2, d3] }
  | _ => none }
def responseTimesRow : OpenClaim := { program := "ytdonlmbhamcjdaarrr", sum := "476a3f426225bd5604a324cab6e612b5c1e5023fc762bbf43aef5399253d0e2f", func := "tithe/tithelaw22.ResponseTimes", spec := "responseTimes", unfollowed := true, recurses := true, apart := false }
def ResponseTimesSaid : Prop := responseTimesRow.holds Try.pinned (OpenSpec.ofChange responseTimesSpec)

/-- ITS FALSE NEIGHBOUR: 'it returns false'. Refute it at one input. -/
def responseTimesWrong : ChangeSpec := { name := "responseTimes", fn := fun _ => fun
  | [d1, d2, d3] => { results := [.lit (.bool false)], args := [d1, d2, d3] }
  | _ => none }
def ResponseTimesWrongFalsely : Prop := responseTimesRow.holds Try.pinned (OpenSpec.ofChange responseTimesWrong)

/-- 'tithelaw22.ResponseLeast': WHATEVER THE INPUT: true; the input reads as it did. -/
def responseLeastSpec : ChangeSpec := { name := "responseLeast", fn := fun _ => fun
  | [d1, d2, d3] => { results := [.lit (.bool true)], args := [d1, d2, d3] }
  | _ => none }
def responseLeastRow : OpenClaim := { program := "ytdonlmbhamcjdaarrr", sum := "476a3f426225bd5604a324cab6e612b5c1e5023fc762bbf43aef5399253d0e2f", func := "tithe/tithelaw22.ResponseLeast", spec := "responseLeast", unfollowed := true, recurses := true, apart := false }
def ResponseLeastSaid : Prop := responseLeastRow.holds Try.pinned (OpenSpec.ofChange responseLeastSpec)

/-- ITS FALSE NEIGHBOUR: 'it returns false'. Refute it at one input. -/
def responseLeastWrong : ChangeSpec := { name := "responseLeast", fn := fun _ => fun
  | [d1, d2, d3] => { results := [.lit (.bool false)], args := [d1, d2, d3] }
  | _ => none }
def ResponseLeastWrongFalsely : Prop := responseLeastRow.holds Try.pinned (OpenSpec.ofChange responseLeastWrong)

/-- 'tithelaw22.ResponsePlays': WHATEVER THE INPUT: true; the input reads as it did. -/
def responsePlaysSpec : ChangeSpec := { name := "responsePlays", fn := fun _ => fun
  | [d1, d2, d3] => { results := [.lit (.bool true)], args := [d1, d2, d3] }
  | _ => none }
def responsePlaysRow : OpenClaim := { program := "ytdonlmbhamcjdaarrr", sum := "476a3f426225bd5604a324cab6e612b5c1e5023fc762bbf43aef5399253d0e2f", func := "tithe/tithelaw22.ResponsePlays", spec := "responsePlays", unfollowed := true, recurses := true, apart := false }
def ResponsePlaysSaid : Prop := responsePlaysRow.holds Try.pinned (OpenSpec.ofChange responsePlaysSpec)

/-- ITS FALSE NEIGHBOUR: 'it returns false'. Refute it at one input. -/
def responsePlaysWrong : ChangeSpec := { name := "responsePlays", fn := fun _ => fun
  | [d1, d2, d3] => { results := [.lit (.bool false)], args := [d1, d2, d3] }
  | _ => none }
def ResponsePlaysWrongFalsely : Prop := responsePlaysRow.holds Try.pinned (OpenSpec.ofChange responsePlaysWrong)

/-- 'tithelaw22.ResponseSound': WHATEVER THE INPUT: true; the input reads as it did. -/
def responseSoundSpec : ChangeSpec := { name := "responseSound", fn := fun _ => fun
  | [d1, d2, d3] => { results := [.lit (.bool true)], args := [d1, d2, d3] }
  | _ => none }
def responseSoundRow : OpenClaim := { program := "ytdonlmbhamcjdaarrr", sum := "476a3f426225bd5604a324cab6e612b5c1e5023fc762bbf43aef5399253d0e2f", func := "tithe/tithelaw22.ResponseSound", spec := "responseSound", unfollowed := true, recurses := true, apart := false }
def ResponseSoundSaid : Prop := responseSoundRow.holds Try.pinned (OpenSpec.ofChange responseSoundSpec)

/-- ITS FALSE NEIGHBOUR: 'it returns false'. Refute it at one input. -/
def responseSoundWrong : ChangeSpec := { name := "responseSound", fn := fun _ => fun
  | [d1, d2, d3] => { results := [.lit (.bool false)], args := [d1, d2, d3] }
  | _ => none }
def ResponseSoundWrongFalsely : Prop := responseSoundRow.holds Try.pinned (OpenSpec.ofChange responseSoundWrong)

/- THE SECOND FORM. 'bulk': how many values and letters a reading holds, each counted each time it is reached (what is shared counts as often as it is met; a slice's spare places count too). A statement '..UptoSaid' is the law's where the arguments, and the package variables that the reading takes, are together of bulk at most 1048576: NARROWER than '..Said'. Prove '..Said' where nothing that the law and all that it calls make is longer than what came in: it says more and counts as full. Else prove '..UptoSaid'. A law counts once. -/
mutual
def uptoBulk {H : Type} : DataW H → Nat
  | .lit (.string bytes) => bytes.length + 1
  | .lit _ => 1
  | .nil => 1
  | .ptr d => uptoBulk d + 1
  | .slice elems spare => uptoBulkAll elems + uptoBulkAll spare + 1
  | .agg parts => uptoBulkAll parts + 1
  | .iface _ d => uptoBulk d + 1
  | .map entries => uptoBulkEntries entries + 1
  | .held _ => 1
def uptoBulkAll {H : Type} : List (DataW H) → Nat
  | [] => 0
  | d :: r => uptoBulk d + uptoBulkAll r
def uptoBulkEntries {H : Type} : List (Lit × DataW H) → Nat
  | [] => 0
  | x :: r => uptoBulkEntry x + uptoBulkEntries r
def uptoBulkEntry {H : Type} : Lit × DataW H → Nat
  | (.string bytes, d) => bytes.length + uptoBulk d + 1
  | (_, d) => uptoBulk d + 1
 end
def uptoSmall : (H : Type) → List (DataW H) → Bool := fun _ ds => decide (uptoBulkAll ds ≤ 1048576)
def OpenSpec.upto (s : _root_.Go.ChangeSpec) : _root_.Go.OpenSpec := { _root_.Go.OpenSpec.ofChange s with cond := some uptoSmall }

/-- 'tithelaw20.DemandLevels', WHERE WHAT IT READS IS OF BULK AT MOST 1048576: true; the input reads as it did. -/
def demandLevelsUptoRow : OpenClaim := { program := "ytdonlmbhamcjdaarrr", sum := "476a3f426225bd5604a324cab6e612b5c1e5023fc762bbf43aef5399253d0e2f", func := "tithe/tithelaw20.DemandLevels", spec := "demandLevels", unfollowed := true, recurses := true, apart := false, narrowed := true }
def DemandLevelsUptoSaid : Prop := demandLevelsUptoRow.holds Try.pinned (OpenSpec.upto demandLevelsSpec)

/-- 'tithelaw20.DemandSerial', WHERE WHAT IT READS IS OF BULK AT MOST 1048576: true; the input reads as it did. -/
def demandSerialUptoRow : OpenClaim := { program := "ytdonlmbhamcjdaarrr", sum := "476a3f426225bd5604a324cab6e612b5c1e5023fc762bbf43aef5399253d0e2f", func := "tithe/tithelaw20.DemandSerial", spec := "demandSerial", unfollowed := true, recurses := true, apart := false, narrowed := true }
def DemandSerialUptoSaid : Prop := demandSerialUptoRow.holds Try.pinned (OpenSpec.upto demandSerialSpec)

/-- 'tithelaw20.DemandCounts', WHERE WHAT IT READS IS OF BULK AT MOST 1048576: true; the input reads as it did. -/
def demandCountsUptoRow : OpenClaim := { program := "ytdonlmbhamcjdaarrr", sum := "476a3f426225bd5604a324cab6e612b5c1e5023fc762bbf43aef5399253d0e2f", func := "tithe/tithelaw20.DemandCounts", spec := "demandCounts", unfollowed := true, recurses := true, apart := false, narrowed := true }
def DemandCountsUptoSaid : Prop := demandCountsUptoRow.holds Try.pinned (OpenSpec.upto demandCountsSpec)

/-- 'tithelaw20.DemandWindows', WHERE WHAT IT READS IS OF BULK AT MOST 1048576: true; the input reads as it did. -/
def demandWindowsUptoRow : OpenClaim := { program := "ytdonlmbhamcjdaarrr", sum := "476a3f426225bd5604a324cab6e612b5c1e5023fc762bbf43aef5399253d0e2f", func := "tithe/tithelaw20.DemandWindows", spec := "demandWindows", unfollowed := true, recurses := true, apart := false, narrowed := true }
def DemandWindowsUptoSaid : Prop := demandWindowsUptoRow.holds Try.pinned (OpenSpec.upto demandWindowsSpec)

/-- 'tithelaw22.ResponseTimes', WHERE WHAT IT READS IS OF BULK AT MOST 1048576: true; the input reads as it did. -/
def responseTimesUptoRow : OpenClaim := { program := "ytdonlmbhamcjdaarrr", sum := "476a3f426225bd5604a324cab6e612b5c1e5023fc762bbf43aef5399253d0e2f", func := "tithe/tithelaw22.ResponseTimes", spec := "responseTimes", unfollowed := true, recurses := true, apart := false, narrowed := true }
def ResponseTimesUptoSaid : Prop := responseTimesUptoRow.holds Try.pinned (OpenSpec.upto responseTimesSpec)

/-- 'tithelaw22.ResponseLeast', WHERE WHAT IT READS IS OF BULK AT MOST 1048576: true; the input reads as it did. -/
def responseLeastUptoRow : OpenClaim := { program := "ytdonlmbhamcjdaarrr", sum := "476a3f426225bd5604a324cab6e612b5c1e5023fc762bbf43aef5399253d0e2f", func := "tithe/tithelaw22.ResponseLeast", spec := "responseLeast", unfollowed := true, recurses := true, apart := false, narrowed := true }
def ResponseLeastUptoSaid : Prop := responseLeastUptoRow.holds Try.pinned (OpenSpec.upto responseLeastSpec)

/-- 'tithelaw22.ResponsePlays', WHERE WHAT IT READS IS OF BULK AT MOST 1048576: true; the input reads as it did. -/
def responsePlaysUptoRow : OpenClaim := { program := "ytdonlmbhamcjdaarrr", sum := "476a3f426225bd5604a324cab6e612b5c1e5023fc762bbf43aef5399253d0e2f", func := "tithe/tithelaw22.ResponsePlays", spec := "responsePlays", unfollowed := true, recurses := true, apart := false, narrowed := true }
def ResponsePlaysUptoSaid : Prop := responsePlaysUptoRow.holds Try.pinned (OpenSpec.upto responsePlaysSpec)

/-- 'tithelaw22.ResponseSound', WHERE WHAT IT READS IS OF BULK AT MOST 1048576: true; the input reads as it did. -/
def responseSoundUptoRow : OpenClaim := { program := "ytdonlmbhamcjdaarrr", sum := "476a3f426225bd5604a324cab6e612b5c1e5023fc762bbf43aef5399253d0e2f", func := "tithe/tithelaw22.ResponseSound", spec := "responseSound", unfollowed := true, recurses := true, apart := false, narrowed := true }
def ResponseSoundUptoSaid : Prop := responseSoundUptoRow.holds Try.pinned (OpenSpec.upto responseSoundSpec)

end Rows
end Go.Proofs.YtdonlmbhamcjdaaRRR
