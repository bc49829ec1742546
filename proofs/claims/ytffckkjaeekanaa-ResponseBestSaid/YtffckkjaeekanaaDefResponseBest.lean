/- Proved here: what the machine does at calls of the functions that the laws reach is what plain functions of the same names say, or a row of the given statement out of that. No conditions. Written by a program of this session over the printer of the kit. -/
import Derived.Test.YtffckkjaeekanaaBestW
import Derived.Test.YtffckkjaeekanaaOpen
namespace Go.Proofs.Ytffckkjaeekanaa.B
open Go.RowKit Go.Proofs.YtffckkjaeekanaaW.PrintWords Go.Proofs.YtffckkjaeekanaaW.PrintLast Go.Proofs.YtffckkjaeekanaaW.PrintMore
set_option linter.unusedVariables false
namespace OfResponseBest
theorem O39 : Opens Try.prog k39 39 (fun x => (Lit.int .i64 x.f0).wf = true ∧ (Lit.int .i64 x.f1).wf = true ∧ (Lit.int .i64 x.f2).wf = true ∧ (Lit.int .i64 x.f3).wf = true) :=
  Opens.struct4 (proj := fun x : S39 => (x.f0, x.f1, x.f2, x.f3)) (fun a b c d => (⟨a, b, c, d⟩ : S39)) (fun _ _ _ _ => rfl) Try.underlying39 (Opens.int Try.underlying3) (Opens.int Try.underlying3) (Opens.int Try.underlying3) (Opens.int Try.underlying3) (by kernel_rfl) (by kernel_rfl) (by kernel_rfl) (by kernel_rfl) (by kernel_rfl) (by kernel_rfl) (by kernel_rfl) (by kernel_rfl) (by kernel_rfl)
theorem O48 : Opens Try.prog k48 48 (fun x => (Lit.int .i64 x.f0).wf = true ∧ (Lit.int .i64 x.f1).wf = true) :=
  Opens.struct2 (proj := fun x : S48 => (x.f0, x.f1)) (fun a b => (⟨a, b⟩ : S48)) (fun _ _ => rfl) Try.underlying48 (Opens.int Try.underlying3) (Opens.int Try.underlying3) (by kernel_rfl) (by kernel_rfl) (by kernel_rfl) (by kernel_rfl) (by kernel_rfl)
end OfResponseBest
def tithelaw22_ResponseBest.Pure : Prop := ∀ (l0 : List (S39)) (l1 : List (S48)), l0.length ≤ maxLen → l0.length * 32 ≤ 140737488351232 → (∀ x ∈ l0, (Lit.int .i64 x.f0).wf = true ∧ (Lit.int .i64 x.f1).wf = true ∧ (Lit.int .i64 x.f2).wf = true ∧ (Lit.int .i64 x.f3).wf = true) → l1.length ≤ maxLen → l1.length * 16 ≤ 140737488351232 → (∀ x ∈ l1, (Lit.int .i64 x.f0).wf = true ∧ (Lit.int .i64 x.f1).wf = true) → ∃ k, tithelaw22_ResponseBest.f k l0 l1 = some true
end Go.Proofs.Ytffckkjaeekanaa.B
