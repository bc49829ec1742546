/- Proved here: what the machine does at calls of the functions that the laws reach is what plain functions of the same names say, or a row of the given statement out of that. No conditions. Written by a program of this session over the printer of the kit. -/
import Derived.Test.YtelihhegkdjdoaaDoorMx17
import Derived.Test.YtelihhegkdjdoaaDoorOpen
namespace Go.Proofs.YtelihhegkdjdoaaDoor.M
open Go.RowKit Go.Proofs.YtelihhegkdjdoaaDoorW.PrintWords Go.Proofs.YtelihhegkdjdoaaDoorW.PrintLast Go.Proofs.YtelihhegkdjdoaaDoorW.PrintMore
set_option linter.unusedVariables false
namespace OfPlanShares
theorem O52 : Opens Tryd.prog k52 52 (fun x => (Lit.int .i64 x.f0).wf = true ∧ (Lit.int .i64 x.f1).wf = true ∧ (Lit.int .i64 x.f2).wf = true ∧ (Lit.int .i64 x.f3).wf = true) :=
  Opens.struct4 (proj := fun x : S52 => (x.f0, x.f1, x.f2, x.f3)) (fun a b c d => (⟨a, b, c, d⟩ : S52)) (fun _ _ _ _ => rfl) Tryd.underlying52 (Opens.int Tryd.underlying3) (Opens.int Tryd.underlying3) (Opens.int Tryd.underlying3) (Opens.int Tryd.underlying3) (by kernel_rfl) (by kernel_rfl) (by kernel_rfl) (by kernel_rfl) (by kernel_rfl) (by kernel_rfl) (by kernel_rfl) (by kernel_rfl) (by kernel_rfl)
end OfPlanShares
def tithelaw23_PlanShares.Pure : Prop := ∀ (l0 : List (List (S52))) (l1 : List Int), l0.length ≤ maxLen → l0.length * 24 ≤ 140737488351232 → (∀ x ∈ l0, (∀ y0 ∈ x, (Lit.int .i64 y0.f0).wf = true ∧ (Lit.int .i64 y0.f1).wf = true ∧ (Lit.int .i64 y0.f2).wf = true ∧ (Lit.int .i64 y0.f3).wf = true) ∧ x.length ≤ maxLen) → l1.length ≤ maxLen → l1.length * 8 ≤ 140737488351232 → (∀ x ∈ l1, (Lit.int .i64 x).wf = true) → ∃ k, tithelaw23_PlanShares.f k l0 l1 = some true
end Go.Proofs.YtelihhegkdjdoaaDoor.M
