/- Proved here: what the machine does at calls of the functions that the laws reach is what plain functions of the same names say, or a row of the given statement out of that. No conditions. Written by a program of this session over the printer of the kit. -/
import Derived.Test.YtfmchkplnglepaaDoorNumE
import Derived.Test.YtfmchkplnglepaaDoorVx0
namespace Go.Proofs.YtfmchkplnglepaaDoor.V
open Go.RowKit Go.Proofs.YtfmchkplnglepaaDoorW.PrintWords Go.Proofs.YtfmchkplnglepaaDoorW.PrintLast Go.Proofs.YtfmchkplnglepaaDoorW.PrintMore
attribute [local go_sem] max2_int min2_int max_two min_two max_three min_three max_four min_four   -- for this text's walks alone
set_option linter.unusedVariables false
set_option linter.unusedSimpArgs false

def tithelaw11_num.f (a : Option Int) : Option Int := some (a.getD 0)
theorem tithelaw11_num.calls (a : Option Int) (r : Int) (w : World) (hG : GG w) (h : tithelaw11_num.f a = some r) :
  Calls Tryd.prog 9 #[errW a] w fun e w' => e = .returned (.int .i64 r) ∧ Below w.heap.size w w' := by
 obtain rfl := Option.some.inj h
 cases a with
 | none =>
  refine (num_none w).mono ?_
  rintro e w' ⟨rfl, rfl⟩
  exact ⟨rfl, (Below.refl w.heap.size w).alloc (Nat.le_refl _) _⟩
 | some a =>
  refine (num_some a w hG).mono ?_
  rintro e w' ⟨rfl, h⟩
  exact ⟨by simp, h⟩

end Go.Proofs.YtfmchkplnglepaaDoor.V
