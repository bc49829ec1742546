/- Proved here: what the machine does at calls of the functions that the laws reach is what plain functions of the same names say, or a row of the given statement out of that. No conditions. Written by a program of this session over the printer of the kit. -/
import Derived.Test.YtelihhegkdjdoaaDoorLx16
import Derived.Test.YtelihhegkdjdoaaDoorOpen
namespace Go.Proofs.YtelihhegkdjdoaaDoor.L
open Go.RowKit Go.Proofs.YtelihhegkdjdoaaDoorW.PrintWords Go.Proofs.YtelihhegkdjdoaaDoorW.PrintLast Go.Proofs.YtelihhegkdjdoaaDoorW.PrintMore
set_option linter.unusedVariables false
namespace OfPlanBest
theorem O52 : Opens Tryd.prog k52 52 (fun x => (Lit.int .i64 x.f0).wf = true ∧ (Lit.int .i64 x.f1).wf = true ∧ (Lit.int .i64 x.f2).wf = true ∧ (Lit.int .i64 x.f3).wf = true) :=
  Opens.struct4 (proj := fun x : S52 => (x.f0, x.f1, x.f2, x.f3)) (fun a b c d => (⟨a, b, c, d⟩ : S52)) (fun _ _ _ _ => rfl) Tryd.underlying52 (Opens.int Tryd.underlying3) (Opens.int Tryd.underlying3) (Opens.int Tryd.underlying3) (Opens.int Tryd.underlying3) (by kernel_rfl) (by kernel_rfl) (by kernel_rfl) (by kernel_rfl) (by kernel_rfl) (by kernel_rfl) (by kernel_rfl) (by kernel_rfl) (by kernel_rfl)
theorem O25 : Opens Tryd.prog k25 25 (fun x => (Lit.int .i64 x.f0).wf = true ∧ (Lit.int .i64 x.f1).wf = true) :=
  Opens.struct2 (proj := fun x : S25 => (x.f0, x.f1)) (fun a b => (⟨a, b⟩ : S25)) (fun _ _ => rfl) Tryd.underlying25 (Opens.int Tryd.underlying3) (Opens.int Tryd.underlying3) (by kernel_rfl) (by kernel_rfl) (by kernel_rfl) (by kernel_rfl) (by kernel_rfl)
end OfPlanBest
def tithelaw23_PlanBest.Pure : Prop := ∀ (l0 : List (S52)) (l1 : List (S25)) (l2 : List Int), l0.length ≤ maxLen → l0.length * 32 ≤ 140737488351232 → (∀ x ∈ l0, (Lit.int .i64 x.f0).wf = true ∧ (Lit.int .i64 x.f1).wf = true ∧ (Lit.int .i64 x.f2).wf = true ∧ (Lit.int .i64 x.f3).wf = true) → l1.length ≤ maxLen → l1.length * 16 ≤ 140737488351232 → (∀ x ∈ l1, (Lit.int .i64 x.f0).wf = true ∧ (Lit.int .i64 x.f1).wf = true) → l2.length ≤ maxLen → l2.length * 8 ≤ 140737488351232 → (∀ x ∈ l2, (Lit.int .i64 x).wf = true) → ∃ k, tithelaw23_PlanBest.f k l0 l1 l2 = some true
end Go.Proofs.YtelihhegkdjdoaaDoor.L
