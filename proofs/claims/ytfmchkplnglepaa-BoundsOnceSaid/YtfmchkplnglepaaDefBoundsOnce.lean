/- Proved here: what the machine does at calls of the functions that the laws reach is what plain functions of the same names say, or a row of the given statement out of that. No conditions. Written by a program of this session over the printer of the kit. -/
import Derived.Test.YtfmchkplnglepaaUx21
import Derived.Test.YtfmchkplnglepaaOpen
namespace Go.Proofs.Ytfmchkplnglepaa.U
open Go.RowKit Go.Proofs.YtfmchkplnglepaaW.PrintWords Go.Proofs.YtfmchkplnglepaaW.PrintLast Go.Proofs.YtfmchkplnglepaaW.PrintMore
set_option linter.unusedVariables false
namespace OfBoundsOnce
theorem O39 : Opens Try.prog k39 39 (fun x => (Lit.int .i64 x.f0).wf = true ∧ (Lit.int .i64 x.f1).wf = true ∧ (Lit.int .i64 x.f2).wf = true) :=
  Opens.struct3 (proj := fun x : S39 => (x.f0, x.f1, x.f2)) (fun a b c => (⟨a, b, c⟩ : S39)) (fun _ _ _ => rfl) Try.underlying39 (Opens.int Try.underlying3) (Opens.int Try.underlying3) (Opens.int Try.underlying3) (by kernel_rfl) (by kernel_rfl) (by kernel_rfl) (by kernel_rfl) (by kernel_rfl) (by kernel_rfl) (by kernel_rfl)
end OfBoundsOnce
def tithelaw11_BoundsOnce.Pure : Prop := ∀ (l0 : List (S39)) (a1 : Int), l0.length ≤ maxLen → l0.length * 24 ≤ 140737488351232 → (∀ x ∈ l0, (Lit.int .i64 x.f0).wf = true ∧ (Lit.int .i64 x.f1).wf = true ∧ (Lit.int .i64 x.f2).wf = true) → (Lit.int .i64 a1).wf = true → tithelaw11_BoundsOnce.f l0 a1 = some true
end Go.Proofs.Ytfmchkplnglepaa.U
