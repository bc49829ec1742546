/- Proved here: what the machine does at calls of the functions that the laws reach is what plain functions of the same names say, or a row of the given statement out of that. No conditions. Written by a program of this session over the printer of the kit. -/
import Derived.Test.YtaoicceakgipgaaBx14
import Derived.Test.YtaoicceakgipgaaOpen
namespace Go.Proofs.Ytaoicceakgipgaa.B
open Go.RowKit Go.Proofs.YtaoicceakgipgaaW.PrintWords Go.Proofs.YtaoicceakgipgaaW.PrintLast Go.Proofs.YtaoicceakgipgaaW.PrintMore
set_option linter.unusedVariables false
namespace OfSupplyBack
theorem O24 : Opens Try.prog k24 24 (fun x => (Lit.int .i64 x.f0).wf = true ∧ (Lit.int .i64 x.f1).wf = true) :=
  Opens.struct2 (proj := fun x : S24 => (x.f0, x.f1)) (fun a b => (⟨a, b⟩ : S24)) (fun _ _ => rfl) Try.underlying24 (Opens.int Try.underlying3) (Opens.int Try.underlying3) (by kernel_rfl) (by kernel_rfl) (by kernel_rfl) (by kernel_rfl) (by kernel_rfl)
end OfSupplyBack
def tithelaw21_SupplyBack.Pure : Prop := ∀ (l0 : List (S24)) (a1 : Int), l0.length ≤ maxLen → l0.length * 16 ≤ 140737488351232 → (∀ x ∈ l0, (Lit.int .i64 x.f0).wf = true ∧ (Lit.int .i64 x.f1).wf = true) → (Lit.int .i64 a1).wf = true → ∃ k, tithelaw21_SupplyBack.f k l0 a1 = some true
end Go.Proofs.Ytaoicceakgipgaa.B
