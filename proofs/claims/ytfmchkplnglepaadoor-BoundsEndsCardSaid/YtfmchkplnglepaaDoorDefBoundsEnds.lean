/- Proved here: what the machine does at calls of the functions that the laws reach is what plain functions of the same names say, or a row of the given statement out of that. No conditions. Written by a program of this session over the printer of the kit. -/
import Derived.Test.YtfmchkplnglepaaDoorVx31
import Derived.Test.YtfmchkplnglepaaDoorOpen
namespace Go.Proofs.YtfmchkplnglepaaDoor.V
open Go.RowKit Go.Proofs.YtfmchkplnglepaaDoorW.PrintWords Go.Proofs.YtfmchkplnglepaaDoorW.PrintLast Go.Proofs.YtfmchkplnglepaaDoorW.PrintMore
set_option linter.unusedVariables false
namespace OfBoundsEnds
theorem O23 : Opens Tryd.prog k23 23 (fun x => (Lit.int .i64 x.f0).wf = true ∧ (Lit.int .i64 x.f1).wf = true) :=
  Opens.struct2 (proj := fun x : S23 => (x.f0, x.f1)) (fun a b => (⟨a, b⟩ : S23)) (fun _ _ => rfl) Tryd.underlying23 (Opens.int Tryd.underlying3) (Opens.int Tryd.underlying3) (by kernel_rfl) (by kernel_rfl) (by kernel_rfl) (by kernel_rfl) (by kernel_rfl)
end OfBoundsEnds
def tithelaw11_BoundsEnds.Pure : Prop := ∀ (a0_0 : Int) (a0_1 : Int) (a1 : Int) (a2 : Int), (Lit.int .i64 a0_0).wf = true → (Lit.int .i64 a0_1).wf = true → (Lit.int .i64 a1).wf = true → (Lit.int .i64 a2).wf = true → ∃ k, tithelaw11_BoundsEnds.f k a0_0 a0_1 a1 a2 = some true
end Go.Proofs.YtfmchkplnglepaaDoor.V
