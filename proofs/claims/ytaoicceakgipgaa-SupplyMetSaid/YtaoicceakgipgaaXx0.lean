/- Proved here: what the machine does at calls of the functions that the laws reach is what plain functions of the same names say, or a row of the given statement out of that. No conditions. Written by a program of this session over the printer of the kit. -/
import Derived.Test.YtaoicceakgipgaaProg
import Derived.Below
import Derived.Deep.Draws
import Derived.Deep.AppendLies
import Derived.Maps.AppendAt
import Derived.OwnWalk
import Derived.Laws.BytesArg
import Derived.Laws.MakeOwn
import Derived.Laws.OwnMore
import Derived.Deep.OwnRows
import Derived.Tactics
import Derived.Lib.ConvBytes
import Derived.Laws.Slices
import Derived.WalkKit
import Derived.KernelRfl
import Derived.RowKit3
import Derived.Deep.LoopGhost
import Derived.Deep.QuietTactic
import Derived.BigQuiet
import Derived.WideLaws
import Derived.Deep.DeepCutAuto
import Derived.Deep.CutBlock
import Derived.Deep.RegionHeld3
import Derived.Laws.Rows
import Derived.Lib.AppendStr
import Derived.ArgAppend
import Derived.Laws.IdiomCopy
import Derived.OrdersHeld
import Derived.Laws.BitsLemmas
import Derived.RowKit
import Derived.Test.YtaoicceakgipgaaWWords
import Derived.Test.YtaoicceakgipgaaWLast
import Derived.Test.YtaoicceakgipgaaWTab
import Derived.Test.YtaoicceakgipgaaWFour
import Derived.Test.YtaoicceakgipgaaWQPut
import Derived.Test.YtaoicceakgipgaaWApart
import Derived.Test.YtaoicceakgipgaaWArr
import Derived.Test.YtaoicceakgipgaaWZeros
import Derived.Test.YtaoicceakgipgaaWFoot
import Derived.Test.YtaoicceakgipgaaWKept
import Derived.Test.YtaoicceakgipgaaWShare
import Derived.Test.YtaoicceakgipgaaWN
import Derived.Test.YtaoicceakgipgaaWFootNe
import Derived.Test.YtaoicceakgipgaaWAt
import Derived.Test.YtaoicceakgipgaaWEqStruct
import Derived.Test.YtaoicceakgipgaaWRepsOne
import Derived.Test.YtaoicceakgipgaaWInv
import Derived.Test.YtaoicceakgipgaaWInvWords
import Derived.Test.YtaoicceakgipgaaWGuard
import Derived.Test.YtaoicceakgipgaaWNEv
import Derived.Test.YtaoicceakgipgaaWMore
namespace Go.Proofs.Ytaoicceakgipgaa.X
open Go.RowKit Go.Proofs.YtaoicceakgipgaaW.PrintWords Go.Proofs.YtaoicceakgipgaaW.PrintLast Go.Proofs.YtaoicceakgipgaaW.PrintMore
attribute [local go_sem] max2_int min2_int max_two min_two max_three min_three max_four min_four   -- for this text's walks alone
set_option linter.unusedVariables false
set_option linter.unusedSimpArgs false



def errW : Option Int → Value
  | none => .nilIface
  | some c => .iface 47 (.int .i64 c)
theorem errW_none : errW none = .nilIface := rfl
theorem errW_some (c : Int) : errW (some c) = .iface 47 (.int .i64 c) := rfl

theorem info4 : (Try.prog.info? 4).map (fun i => (i.zero, i.size, i.bytes)) = some (some (.bool false), 1, 1) := by kernel_rfl
-- the values' own types

end Go.Proofs.Ytaoicceakgipgaa.X
