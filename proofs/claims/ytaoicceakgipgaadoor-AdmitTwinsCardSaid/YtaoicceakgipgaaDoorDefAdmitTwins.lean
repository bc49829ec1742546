/- Proved here: what the machine does at calls of the functions that the laws reach is what plain functions of the same names say, or a row of the given statement out of that. No conditions. Written by a program of this session over the printer of the kit. -/
import Derived.Test.YtaoicceakgipgaaDoorTx9
import Derived.Test.YtaoicceakgipgaaDoorOpen
namespace Go.Proofs.YtaoicceakgipgaaDoor.T
open Go.RowKit Go.Proofs.YtaoicceakgipgaaDoorW.PrintWords Go.Proofs.YtaoicceakgipgaaDoorW.PrintLast Go.Proofs.YtaoicceakgipgaaDoorW.PrintMore
set_option linter.unusedVariables false
namespace OfAdmitTwins
theorem O26 : Opens Tryd.prog k26 26 (fun x => (Lit.int .i64 x.f0).wf = true ∧ (Lit.int .i64 x.f1).wf = true ∧ (Lit.int .i64 x.f2).wf = true) :=
  Opens.struct3 (proj := fun x : S26 => (x.f0, x.f1, x.f2)) (fun a b c => (⟨a, b, c⟩ : S26)) (fun _ _ _ => rfl) Tryd.underlying26 (Opens.int Tryd.underlying3) (Opens.int Tryd.underlying3) (Opens.int Tryd.underlying3) (by kernel_rfl) (by kernel_rfl) (by kernel_rfl) (by kernel_rfl) (by kernel_rfl) (by kernel_rfl) (by kernel_rfl)
end OfAdmitTwins
def tithelaw08_AdmitTwins.Pure : Prop := ∀ (l0 : List (S26)) (l1 : List (S26)), l0.length ≤ maxLen → l0.length * 24 ≤ 140737488351232 → (∀ x ∈ l0, (Lit.int .i64 x.f0).wf = true ∧ (Lit.int .i64 x.f1).wf = true ∧ (Lit.int .i64 x.f2).wf = true) → l1.length ≤ maxLen → l1.length * 24 ≤ 140737488351232 → (∀ x ∈ l1, (Lit.int .i64 x.f0).wf = true ∧ (Lit.int .i64 x.f1).wf = true ∧ (Lit.int .i64 x.f2).wf = true) → tithelaw08_AdmitTwins.f l0 l1 = some true
end Go.Proofs.YtaoicceakgipgaaDoor.T
