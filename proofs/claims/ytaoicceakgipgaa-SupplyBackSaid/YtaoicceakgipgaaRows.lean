/-
  No cell of these rows narrows 'for every input' (looked for: loops, veiled, ifaces, maps, wideKeys, modest, calm, conditions, laid).
  DERIVED. THE GIVEN ROWS OF THIS SEAT. 3 by the template 'for every input the law returns true; each argument reads behind the call as it read before'; 0 by the template 'total and deterministic' (their statements: YtaoicceakgipgaaTotals.lean).
  GIVEN WITH THE SEED: the statements are not yours to turn. If you find one false, say at which input.
  Laid BY PROGRAM, IN A SANDBOX (cutbox-rows.mjs): the forced cells as the released guide's own fill.sh prints them over the translation b43aa9070c2aeeb3… (all of the seat's roots in one cut). By AI agents, Wed Nov 11 2026. No macro, syntax, notation, axiom, sorry.
-/
import Derived.Test.YtaoicceakgipgaaChecked
import GoSem.Claim
import GoSem.ClaimJoined
import GoSem.ClaimMapViews
import Derived.JoinedTies
import Derived.KernelRfl
namespace Go.Proofs.Ytaoicceakgipgaa
/- THE CELL 'sum', in the pinned program and in every row, IS THE sha256 OF THE DUMP (.gsa) THAT YtaoicceakgipgaaProg.lean LOADS. Nothing in Lean hashes anything: it is a label: what it is worth is what the hold of that sum in a sandbox is worth. -/
noncomputable def Try.pinned : Pinned := { name := "ytaoicceakgipgaa", sum := "b43aa9070c2aeeb30421e4a613cda362b6f8e0511bef1daf21d925f3b11cce7d", checked := Try.checked }
namespace Rows
def none {H : Type} : Left H := { results := [], args := [] }

/-- 'tithelaw21.SupplyMet': WHATEVER THE INPUT: true; the input reads as it did. -/
def supplyMetSpec : ChangeSpec := { name := "supplyMet", fn := fun _ => fun
  | [d1, d2, d3] => { results := [.lit (.bool true)], args := [d1, d2, d3] }
  | _ => none }
def supplyMetRow : OpenClaim := { program := "ytaoicceakgipgaa", sum := "b43aa9070c2aeeb30421e4a613cda362b6f8e0511bef1daf21d925f3b11cce7d", func := "tithe/tithelaw21.SupplyMet", spec := "supplyMet", apart := false }
def SupplyMetSaid : Prop := supplyMetRow.holds Try.pinned (OpenSpec.ofChange supplyMetSpec)

/-- ITS FALSE NEIGHBOUR: 'it returns false'. Refute it at one input. -/
def supplyMetWrong : ChangeSpec := { name := "supplyMet", fn := fun _ => fun
  | [d1, d2, d3] => { results := [.lit (.bool false)], args := [d1, d2, d3] }
  | _ => none }
def SupplyMetWrongFalsely : Prop := supplyMetRow.holds Try.pinned (OpenSpec.ofChange supplyMetWrong)

/-- 'tithelaw21.SupplyHolds': WHATEVER THE INPUT: true; the input reads as it did. -/
def supplyHoldsSpec : ChangeSpec := { name := "supplyHolds", fn := fun _ => fun
  | [d1, d2, d3] => { results := [.lit (.bool true)], args := [d1, d2, d3] }
  | _ => none }
def supplyHoldsRow : OpenClaim := { program := "ytaoicceakgipgaa", sum := "b43aa9070c2aeeb30421e4a613cda362b6f8e0511bef1daf21d925f3b11cce7d", func := "tithe/tithelaw21.SupplyHolds", spec := "supplyHolds", apart := false }
def SupplyHoldsSaid : Prop := supplyHoldsRow.holds Try.pinned (OpenSpec.ofChange supplyHoldsSpec)

/-- ITS FALSE NEIGHBOUR: 'it returns false'. Refute it at one input. -/
def supplyHoldsWrong : ChangeSpec := { name := "supplyHolds", fn := fun _ => fun
  | [d1, d2, d3] => { results := [.lit (.bool false)], args := [d1, d2, d3] }
  | _ => none }
def SupplyHoldsWrongFalsely : Prop := supplyHoldsRow.holds Try.pinned (OpenSpec.ofChange supplyHoldsWrong)

/-- 'tithelaw21.SupplyBack': WHATEVER THE INPUT: true; the input reads as it did. -/
def supplyBackSpec : ChangeSpec := { name := "supplyBack", fn := fun _ => fun
  | [d1, d2] => { results := [.lit (.bool true)], args := [d1, d2] }
  | _ => none }
def supplyBackRow : OpenClaim := { program := "ytaoicceakgipgaa", sum := "b43aa9070c2aeeb30421e4a613cda362b6f8e0511bef1daf21d925f3b11cce7d", func := "tithe/tithelaw21.SupplyBack", spec := "supplyBack", unfollowed := true, recurses := true, apart := false }
def SupplyBackSaid : Prop := supplyBackRow.holds Try.pinned (OpenSpec.ofChange supplyBackSpec)

/-- ITS FALSE NEIGHBOUR: 'it returns false'. Refute it at one input. -/
def supplyBackWrong : ChangeSpec := { name := "supplyBack", fn := fun _ => fun
  | [d1, d2] => { results := [.lit (.bool false)], args := [d1, d2] }
  | _ => none }
def SupplyBackWrongFalsely : Prop := supplyBackRow.holds Try.pinned (OpenSpec.ofChange supplyBackWrong)

/- THE SECOND FORM. 'bulk': how many values and letters a reading holds, each counted each time it is reached (what is shared counts as often as it is met; a slice's spare places count too). A statement '..UptoSaid' is the law's where the arguments, and the package variables that the reading takes, are together of bulk at most 1048576: NARROWER than '..Said'. Prove '..Said' where nothing that the law and all that it calls make is longer than what came in: it says more and counts as full. Else prove '..UptoSaid'. A law counts once. -/
mutual
def uptoBulk {H : Type} : DataW H → Nat
  | .lit (.string bytes) => bytes.length + 1
  | .lit _ => 1
  | .nil => 1
  | .ptr d => uptoBulk d + 1
  | .slice elems spare => uptoBulkAll elems + uptoBulkAll spare + 1
  | .agg parts => uptoBulkAll parts + 1
  | .iface _ d => uptoBulk d + 1
  | .map entries => uptoBulkEntries entries + 1
  | .held _ => 1
def uptoBulkAll {H : Type} : List (DataW H) → Nat
  | [] => 0
  | d :: r => uptoBulk d + uptoBulkAll r
def uptoBulkEntries {H : Type} : List (Lit × DataW H) → Nat
  | [] => 0
  | x :: r => uptoBulkEntry x + uptoBulkEntries r
def uptoBulkEntry {H : Type} : Lit × DataW H → Nat
  | (.string bytes, d) => bytes.length + uptoBulk d + 1
  | (_, d) => uptoBulk d + 1
 end
def uptoSmall : (H : Type) → List (DataW H) → Bool := fun _ ds => decide (uptoBulkAll ds ≤ 1048576)
def OpenSpec.upto (s : _root_.Go.ChangeSpec) : _root_.Go.OpenSpec := { _root_.Go.OpenSpec.ofChange s with cond := some uptoSmall }

/-- 'tithelaw21.SupplyMet', WHERE WHAT IT READS IS OF BULK AT MOST 1048576: true; the input reads as it did. -/
def supplyMetUptoRow : OpenClaim := { program := "ytaoicceakgipgaa", sum := "b43aa9070c2aeeb30421e4a613cda362b6f8e0511bef1daf21d925f3b11cce7d", func := "tithe/tithelaw21.SupplyMet", spec := "supplyMet", apart := false, narrowed := true }
def SupplyMetUptoSaid : Prop := supplyMetUptoRow.holds Try.pinned (OpenSpec.upto supplyMetSpec)

/-- 'tithelaw21.SupplyHolds', WHERE WHAT IT READS IS OF BULK AT MOST 1048576: true; the input reads as it did. -/
def supplyHoldsUptoRow : OpenClaim := { program := "ytaoicceakgipgaa", sum := "b43aa9070c2aeeb30421e4a613cda362b6f8e0511bef1daf21d925f3b11cce7d", func := "tithe/tithelaw21.SupplyHolds", spec := "supplyHolds", apart := false, narrowed := true }
def SupplyHoldsUptoSaid : Prop := supplyHoldsUptoRow.holds Try.pinned (OpenSpec.upto supplyHoldsSpec)

/-- 'tithelaw21.SupplyBack', WHERE WHAT IT READS IS OF BULK AT MOST 1048576: true; the input reads as it did. -/
def supplyBackUptoRow : OpenClaim := { program := "ytaoicceakgipgaa", sum := "b43aa9070c2aeeb30421e4a613cda362b6f8e0511bef1daf21d925f3b11cce7d", func := "tithe/tithelaw21.SupplyBack", spec := "supplyBack", unfollowed := true, recurses := true, apart := false, narrowed := true }
def SupplyBackUptoSaid : Prop := supplyBackUptoRow.holds Try.pinned (OpenSpec.upto supplyBackSpec)

end Rows
end Go.Proofs.Ytaoicceakgipgaa
