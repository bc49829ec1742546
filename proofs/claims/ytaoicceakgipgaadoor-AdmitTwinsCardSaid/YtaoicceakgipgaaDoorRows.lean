/-
  NARROWER THAN 'FOR EVERY INPUT', by the rows' own cells (each row's printed sentence says how): AdmitExact: laid · AdmitTwins: laid · AdmitRoom: laid · AdmitLoads: laid · AdmitRuns: laid · AdmitNone: laid.
  DERIVED. THE GIVEN ROWS OF THIS SEAT. 6 by the template 'for every input the law returns true; each argument reads behind the call as it read before'; 0 by the template 'total and deterministic' (their statements: YtaoicceakgipgaaDoorTotals.lean).
  GIVEN WITH THE SEED: the statements are not yours to turn. If you find one false, say at which input.
  Laid BY PROGRAM, IN A SANDBOX (cutbox-rows.mjs): the forced cells as the released guide's own fill.sh prints them over the translation 2235e6c7ea4463d8… (all of the seat's roots in one cut). By AI agents, Wed Nov 11 2026. No macro, syntax, notation, axiom, sorry.
-/
import Derived.Test.YtaoicceakgipgaaDoorChecked
import GoSem.Claim
import GoSem.ClaimJoined
import GoSem.ClaimMapViews
import Derived.JoinedTies
import Derived.KernelRfl
namespace Go.Proofs.YtaoicceakgipgaaDoor
/- THE CELL 'sum', in the pinned program and in every row, IS THE sha256 OF THE DUMP (.gsa) THAT YtaoicceakgipgaaDoorProg.lean LOADS. Nothing in Lean hashes anything: it is a label: what it is worth is what the hold of that sum in a sandbox is worth. -/
noncomputable def Tryd.pinned : Pinned := { name := "ytaoicceakgipgaadoor", sum := "2235e6c7ea4463d8dbf75718898e807e6d661413985ce4a14d9ada04fd98cae8", checked := Tryd.checked }
namespace Rows
def none {H : Type} : Left H := { results := [], args := [] }

/- WHAT THE LISTED PACKAGE-LEVEL VARIABLES READ AS WHEN THE CALL BEGINS. Each datum BY PROGRAM (the guide's laid-datum.mjs) off the statement by which the dump's own 'gosem.cut.vars' lays the variable. In a bare row this is a premise. The card (YtaoicceakgipgaaDoorCards.lean) ties it to the program's text. -/
def laid_tithe_admit_none {H : Type} : DataW H := .agg [.lit (.int .i64 0), .lit (.int .i64 0), .lit (.int .i64 0), .lit (.bool false)]

/-- 'tithelaw08.AdmitExact': WHATEVER THE INPUT: true; the input reads as it did. -/
def admitExactSpec : ChangeSpec := { name := "admitExact", fn := fun _ => fun
  | [d] => { results := [.lit (.bool true)], args := [d] }
  | _ => none }
def admitExactRow : OpenClaim := { program := "ytaoicceakgipgaadoor", sum := "2235e6c7ea4463d8dbf75718898e807e6d661413985ce4a14d9ada04fd98cae8", func := "tithe/tithelaw08.AdmitExact", spec := "admitExact", named := ["tithe/admit.none"], apart := false, laid := [("tithe/admit.none", laid_tithe_admit_none)] }
def AdmitExactSaid : Prop := admitExactRow.holds Tryd.pinned (OpenSpec.ofChange admitExactSpec)

/-- ITS FALSE NEIGHBOUR: 'it returns false'. Refute it at one input. -/
def admitExactWrong : ChangeSpec := { name := "admitExact", fn := fun _ => fun
  | [d] => { results := [.lit (.bool false)], args := [d] }
  | _ => none }
def AdmitExactWrongFalsely : Prop := admitExactRow.holds Tryd.pinned (OpenSpec.ofChange admitExactWrong)

/-- 'tithelaw08.AdmitTwins': WHATEVER THE INPUT: true; the input reads as it did. -/
def admitTwinsSpec : ChangeSpec := { name := "admitTwins", fn := fun _ => fun
  | [d1, d2] => { results := [.lit (.bool true)], args := [d1, d2] }
  | _ => none }
def admitTwinsRow : OpenClaim := { program := "ytaoicceakgipgaadoor", sum := "2235e6c7ea4463d8dbf75718898e807e6d661413985ce4a14d9ada04fd98cae8", func := "tithe/tithelaw08.AdmitTwins", spec := "admitTwins", named := ["tithe/admit.none"], apart := false, laid := [("tithe/admit.none", laid_tithe_admit_none)] }
def AdmitTwinsSaid : Prop := admitTwinsRow.holds Tryd.pinned (OpenSpec.ofChange admitTwinsSpec)

/-- ITS FALSE NEIGHBOUR: 'it returns false'. Refute it at one input. -/
def admitTwinsWrong : ChangeSpec := { name := "admitTwins", fn := fun _ => fun
  | [d1, d2] => { results := [.lit (.bool false)], args := [d1, d2] }
  | _ => none }
def AdmitTwinsWrongFalsely : Prop := admitTwinsRow.holds Tryd.pinned (OpenSpec.ofChange admitTwinsWrong)

/-- 'tithelaw08.AdmitRoom': WHATEVER THE INPUT: true; the input reads as it did. -/
def admitRoomSpec : ChangeSpec := { name := "admitRoom", fn := fun _ => fun
  | [d1, d2] => { results := [.lit (.bool true)], args := [d1, d2] }
  | _ => none }
def admitRoomRow : OpenClaim := { program := "ytaoicceakgipgaadoor", sum := "2235e6c7ea4463d8dbf75718898e807e6d661413985ce4a14d9ada04fd98cae8", func := "tithe/tithelaw08.AdmitRoom", spec := "admitRoom", named := ["tithe/admit.none"], apart := false, laid := [("tithe/admit.none", laid_tithe_admit_none)] }
def AdmitRoomSaid : Prop := admitRoomRow.holds Tryd.pinned (OpenSpec.ofChange admitRoomSpec)

/-- ITS FALSE NEIGHBOUR: 'it returns false'. Refute it at one input. -/
def admitRoomWrong : ChangeSpec := { name := "admitRoom", fn := fun _ => fun
  | [d1, d2] => { results := [.lit (.bool false)], args := [d1, d2] }
  | _ => none }
def AdmitRoomWrongFalsely : Prop := admitRoomRow.holds Tryd.pinned (OpenSpec.ofChange admitRoomWrong)

/-- 'tithelaw08.AdmitLoads': WHATEVER THE INPUT: true; the input reads as it did. -/
def admitLoadsSpec : ChangeSpec := { name := "admitLoads", fn := fun _ => fun
  | [d1, d2] => { results := [.lit (.bool true)], args := [d1, d2] }
  | _ => none }
def admitLoadsRow : OpenClaim := { program := "ytaoicceakgipgaadoor", sum := "2235e6c7ea4463d8dbf75718898e807e6d661413985ce4a14d9ada04fd98cae8", func := "tithe/tithelaw08.AdmitLoads", spec := "admitLoads", named := ["tithe/admit.none"], apart := false, laid := [("tithe/admit.none", laid_tithe_admit_none)] }
def AdmitLoadsSaid : Prop := admitLoadsRow.holds Tryd.pinned (OpenSpec.ofChange admitLoadsSpec)

/-- ITS FALSE NEIGHBOUR: 'it returns false'. Refute it at one input. -/
def admitLoadsWrong : ChangeSpec := { name := "admitLoads", fn := fun _ => fun
  | [d1, d2] => { results := [.lit (.bool false)], args := [d1, d2] }
  | _ => none }
def AdmitLoadsWrongFalsely : Prop := admitLoadsRow.holds Tryd.pinned (OpenSpec.ofChange admitLoadsWrong)

/-- 'tithelaw08.AdmitRuns': WHATEVER THE INPUT: true; the input reads as it did. -/
def admitRunsSpec : ChangeSpec := { name := "admitRuns", fn := fun _ => fun
  | [d1, d2] => { results := [.lit (.bool true)], args := [d1, d2] }
  | _ => none }
def admitRunsRow : OpenClaim := { program := "ytaoicceakgipgaadoor", sum := "2235e6c7ea4463d8dbf75718898e807e6d661413985ce4a14d9ada04fd98cae8", func := "tithe/tithelaw08.AdmitRuns", spec := "admitRuns", named := ["tithe/admit.none"], apart := false, laid := [("tithe/admit.none", laid_tithe_admit_none)] }
def AdmitRunsSaid : Prop := admitRunsRow.holds Tryd.pinned (OpenSpec.ofChange admitRunsSpec)

/-- ITS FALSE NEIGHBOUR: 'it returns false'. Refute it at one input. -/
def admitRunsWrong : ChangeSpec := { name := "admitRuns", fn := fun _ => fun
  | [d1, d2] => { results := [.lit (.bool false)], args := [d1, d2] }
  | _ => none }
def AdmitRunsWrongFalsely : Prop := admitRunsRow.holds Tryd.pinned (OpenSpec.ofChange admitRunsWrong)

/-- 'tithelaw08.AdmitNone': WHATEVER THE INPUT: true; the input reads as it did. -/
def admitNoneSpec : ChangeSpec := { name := "admitNone", fn := fun _ => fun
  | [d] => { results := [.lit (.bool true)], args := [d] }
  | _ => none }
def admitNoneRow : OpenClaim := { program := "ytaoicceakgipgaadoor", sum := "2235e6c7ea4463d8dbf75718898e807e6d661413985ce4a14d9ada04fd98cae8", func := "tithe/tithelaw08.AdmitNone", spec := "admitNone", named := ["tithe/admit.none"], apart := false, laid := [("tithe/admit.none", laid_tithe_admit_none)] }
def AdmitNoneSaid : Prop := admitNoneRow.holds Tryd.pinned (OpenSpec.ofChange admitNoneSpec)

/-- ITS FALSE NEIGHBOUR: 'it returns false'. Refute it at one input. -/
def admitNoneWrong : ChangeSpec := { name := "admitNone", fn := fun _ => fun
  | [d] => { results := [.lit (.bool false)], args := [d] }
  | _ => none }
def AdmitNoneWrongFalsely : Prop := admitNoneRow.holds Tryd.pinned (OpenSpec.ofChange admitNoneWrong)

/- THE SECOND FORM. 'bulk': how many values and letters a reading holds, each counted each time it is reached (what is shared counts as often as it is met; a slice's spare places count too). A statement '..UptoSaid' is the law's where the arguments, and the package variables that the reading takes, are together of bulk at most 1048576: NARROWER than '..Said'. Prove '..Said' where nothing that the law and all that it calls make is longer than what came in: it says more and counts as full. Else prove '..UptoSaid'. A law counts once. -/
mutual
def uptoBulk {H : Type} : DataW H → Nat
  | .lit (.string bytes) => bytes.length + 1
  | .lit _ => 1
  | .nil => 1
  | .ptr d => uptoBulk d + 1
  | .slice elems spare => uptoBulkAll elems + uptoBulkAll spare + 1
  | .agg parts => uptoBulkAll parts + 1
  | .iface _ d => uptoBulk d + 1
  | .map entries => uptoBulkEntries entries + 1
  | .held _ => 1
def uptoBulkAll {H : Type} : List (DataW H) → Nat
  | [] => 0
  | d :: r => uptoBulk d + uptoBulkAll r
def uptoBulkEntries {H : Type} : List (Lit × DataW H) → Nat
  | [] => 0
  | x :: r => uptoBulkEntry x + uptoBulkEntries r
def uptoBulkEntry {H : Type} : Lit × DataW H → Nat
  | (.string bytes, d) => bytes.length + uptoBulk d + 1
  | (_, d) => uptoBulk d + 1
 end
def uptoSmall : (H : Type) → List (DataW H) → Bool := fun _ ds => decide (uptoBulkAll ds ≤ 1048576)
def OpenSpec.upto (s : _root_.Go.ChangeSpec) : _root_.Go.OpenSpec := { _root_.Go.OpenSpec.ofChange s with cond := some uptoSmall }

/-- 'tithelaw08.AdmitExact', WHERE WHAT IT READS IS OF BULK AT MOST 1048576: true; the input reads as it did. -/
def admitExactUptoRow : OpenClaim := { program := "ytaoicceakgipgaadoor", sum := "2235e6c7ea4463d8dbf75718898e807e6d661413985ce4a14d9ada04fd98cae8", func := "tithe/tithelaw08.AdmitExact", spec := "admitExact", named := ["tithe/admit.none"], apart := false, laid := [("tithe/admit.none", laid_tithe_admit_none)], narrowed := true }
def AdmitExactUptoSaid : Prop := admitExactUptoRow.holds Tryd.pinned (OpenSpec.upto admitExactSpec)

/-- 'tithelaw08.AdmitTwins', WHERE WHAT IT READS IS OF BULK AT MOST 1048576: true; the input reads as it did. -/
def admitTwinsUptoRow : OpenClaim := { program := "ytaoicceakgipgaadoor", sum := "2235e6c7ea4463d8dbf75718898e807e6d661413985ce4a14d9ada04fd98cae8", func := "tithe/tithelaw08.AdmitTwins", spec := "admitTwins", named := ["tithe/admit.none"], apart := false, laid := [("tithe/admit.none", laid_tithe_admit_none)], narrowed := true }
def AdmitTwinsUptoSaid : Prop := admitTwinsUptoRow.holds Tryd.pinned (OpenSpec.upto admitTwinsSpec)

/-- 'tithelaw08.AdmitRoom', WHERE WHAT IT READS IS OF BULK AT MOST 1048576: true; the input reads as it did. -/
def admitRoomUptoRow : OpenClaim := { program := "ytaoicceakgipgaadoor", sum := "2235e6c7ea4463d8dbf75718898e807e6d661413985ce4a14d9ada04fd98cae8", func := "tithe/tithelaw08.AdmitRoom", spec := "admitRoom", named := ["tithe/admit.none"], apart := false, laid := [("tithe/admit.none", laid_tithe_admit_none)], narrowed := true }
def AdmitRoomUptoSaid : Prop := admitRoomUptoRow.holds Tryd.pinned (OpenSpec.upto admitRoomSpec)

/-- 'tithelaw08.AdmitLoads', WHERE WHAT IT READS IS OF BULK AT MOST 1048576: true; the input reads as it did. -/
def admitLoadsUptoRow : OpenClaim := { program := "ytaoicceakgipgaadoor", sum := "2235e6c7ea4463d8dbf75718898e807e6d661413985ce4a14d9ada04fd98cae8", func := "tithe/tithelaw08.AdmitLoads", spec := "admitLoads", named := ["tithe/admit.none"], apart := false, laid := [("tithe/admit.none", laid_tithe_admit_none)], narrowed := true }
def AdmitLoadsUptoSaid : Prop := admitLoadsUptoRow.holds Tryd.pinned (OpenSpec.upto admitLoadsSpec)

/-- 'tithelaw08.AdmitRuns', WHERE WHAT IT READS IS OF BULK AT MOST 1048576: true; the input reads as it did. -/
def admitRunsUptoRow : OpenClaim := { program := "ytaoicceakgipgaadoor", sum := "2235e6c7ea4463d8dbf75718898e807e6d661413985ce4a14d9ada04fd98cae8", func := "tithe/tithelaw08.AdmitRuns", spec := "admitRuns", named := ["tithe/admit.none"], apart := false, laid := [("tithe/admit.none", laid_tithe_admit_none)], narrowed := true }
def AdmitRunsUptoSaid : Prop := admitRunsUptoRow.holds Tryd.pinned (OpenSpec.upto admitRunsSpec)

/-- 'tithelaw08.AdmitNone', WHERE WHAT IT READS IS OF BULK AT MOST 1048576: true; the input reads as it did. -/
def admitNoneUptoRow : OpenClaim := { program := "ytaoicceakgipgaadoor", sum := "2235e6c7ea4463d8dbf75718898e807e6d661413985ce4a14d9ada04fd98cae8", func := "tithe/tithelaw08.AdmitNone", spec := "admitNone", named := ["tithe/admit.none"], apart := false, laid := [("tithe/admit.none", laid_tithe_admit_none)], narrowed := true }
def AdmitNoneUptoSaid : Prop := admitNoneUptoRow.holds Tryd.pinned (OpenSpec.upto admitNoneSpec)

end Rows
end Go.Proofs.YtaoicceakgipgaaDoor
