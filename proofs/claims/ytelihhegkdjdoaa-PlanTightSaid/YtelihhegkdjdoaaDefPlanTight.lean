/- Proved here: what the machine does at calls of the functions that the laws reach is what plain functions of the same names say, or a row of the given statement out of that. No conditions. Written by a program of this session over the printer of the kit. -/
import Derived.Test.YtelihhegkdjdoaaPx10
import Derived.Test.YtelihhegkdjdoaaOpen
namespace Go.Proofs.Ytelihhegkdjdoaa.P
open Go.RowKit Go.Proofs.YtelihhegkdjdoaaW.PrintWords Go.Proofs.YtelihhegkdjdoaaW.PrintLast Go.Proofs.YtelihhegkdjdoaaW.PrintMore
set_option linter.unusedVariables false
namespace OfPlanTight
theorem O42 : Opens Try.prog k42 42 (fun x => (Lit.int .i64 x.f0).wf = true ∧ (Lit.int .i64 x.f1).wf = true ∧ (Lit.int .i64 x.f2).wf = true ∧ (Lit.int .i64 x.f3).wf = true) :=
  Opens.struct4 (proj := fun x : S42 => (x.f0, x.f1, x.f2, x.f3)) (fun a b c d => (⟨a, b, c, d⟩ : S42)) (fun _ _ _ _ => rfl) Try.underlying42 (Opens.int Try.underlying3) (Opens.int Try.underlying3) (Opens.int Try.underlying3) (Opens.int Try.underlying3) (by kernel_rfl) (by kernel_rfl) (by kernel_rfl) (by kernel_rfl) (by kernel_rfl) (by kernel_rfl) (by kernel_rfl) (by kernel_rfl) (by kernel_rfl)
end OfPlanTight
def tithelaw23_PlanTight.Pure : Prop := ∀ (l0 : List (S42)) (a1 : Int) (a2 : Int), l0.length ≤ maxLen → l0.length * 32 ≤ 140737488351232 → (∀ x ∈ l0, (Lit.int .i64 x.f0).wf = true ∧ (Lit.int .i64 x.f1).wf = true ∧ (Lit.int .i64 x.f2).wf = true ∧ (Lit.int .i64 x.f3).wf = true) → (Lit.int .i64 a1).wf = true → (Lit.int .i64 a2).wf = true → ∃ k, tithelaw23_PlanTight.f k l0 a1 a2 = some true
end Go.Proofs.Ytelihhegkdjdoaa.P
