/- Proved here: what the machine does at calls of the functions that the laws reach is what plain functions of the same names say, or a row of the given statement out of that. No conditions. Written by a program of this session over the printer of the kit. -/
import Derived.Test.YtfmchkplnglepaaDoorHpBoI
import Derived.Test.YtfmchkplnglepaaDoorVx0
namespace Go.Proofs.YtfmchkplnglepaaDoor.V
open Go.RowKit Go.Proofs.YtfmchkplnglepaaDoorW.PrintWords Go.Proofs.YtfmchkplnglepaaDoorW.PrintLast Go.Proofs.YtfmchkplnglepaaDoorW.PrintMore
attribute [local go_sem] max2_int min2_int max_two min_two max_three min_three max_four min_four   -- for this text's walks alone
set_option linter.unusedVariables false
set_option linter.unusedSimpArgs false

def tithelaw11_sure.f : Option Bool := some true
theorem tithelaw11_sure.calls (r : Bool) (w : World) (h : tithelaw11_sure.f = some r) :
  Calls Tryd.prog 10 #[] w fun e w' => e = .returned (.bool r) ∧ Below w.heap.size w w' := by
 obtain rfl := Option.some.inj h
 exact Go.Proofs.YtfmchkplnglepaaDoor.HpI.sure11 w

end Go.Proofs.YtfmchkplnglepaaDoor.V
