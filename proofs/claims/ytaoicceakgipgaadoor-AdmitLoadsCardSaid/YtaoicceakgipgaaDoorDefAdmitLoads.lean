/- Proved here: what the machine does at calls of the functions that the laws reach is what plain functions of the same names say, or a row of the given statement out of that. No conditions. Written by a program of this session over the printer of the kit. -/
import Derived.Test.YtaoicceakgipgaaDoorQx16
import Derived.Test.YtaoicceakgipgaaDoorOpen
namespace Go.Proofs.YtaoicceakgipgaaDoor.Q
open Go.RowKit Go.Proofs.YtaoicceakgipgaaDoorW.PrintWords Go.Proofs.YtaoicceakgipgaaDoorW.PrintLast Go.Proofs.YtaoicceakgipgaaDoorW.PrintMore
set_option linter.unusedVariables false
namespace OfAdmitLoads
theorem O51 : Opens Tryd.prog k51 51 (fun x => (Lit.int .i64 x.f0).wf = true ∧ (Lit.int .i64 x.f1).wf = true ∧ (Lit.int .i64 x.f2).wf = true ∧ True) :=
  Opens.struct4 (proj := fun x : S51 => (x.f0, x.f1, x.f2, x.f3)) (fun a b c d => (⟨a, b, c, d⟩ : S51)) (fun _ _ _ _ => rfl) Tryd.underlying51 (Opens.int Tryd.underlying3) (Opens.int Tryd.underlying3) (Opens.int Tryd.underlying3) (Opens.bool Tryd.underlying4) (by kernel_rfl) (by kernel_rfl) (by kernel_rfl) (by kernel_rfl) (by kernel_rfl) (by kernel_rfl) (by kernel_rfl) (by kernel_rfl) (by kernel_rfl)
theorem O26 : Opens Tryd.prog k26 26 (fun x => (Lit.int .i64 x.f0).wf = true ∧ (Lit.int .i64 x.f1).wf = true ∧ (Lit.int .i64 x.f2).wf = true) :=
  Opens.struct3 (proj := fun x : S26 => (x.f0, x.f1, x.f2)) (fun a b c => (⟨a, b, c⟩ : S26)) (fun _ _ _ => rfl) Tryd.underlying26 (Opens.int Tryd.underlying3) (Opens.int Tryd.underlying3) (Opens.int Tryd.underlying3) (by kernel_rfl) (by kernel_rfl) (by kernel_rfl) (by kernel_rfl) (by kernel_rfl) (by kernel_rfl) (by kernel_rfl)
end OfAdmitLoads
def tithelaw08_AdmitLoads.Pure : Prop := ∀ (l0 : List (S51)) (l1 : List (S26)), l0.length ≤ maxLen → l0.length * 32 ≤ 140737488351232 → (∀ x ∈ l0, (Lit.int .i64 x.f0).wf = true ∧ (Lit.int .i64 x.f1).wf = true ∧ (Lit.int .i64 x.f2).wf = true ∧ True) → l1.length ≤ maxLen → l1.length * 24 ≤ 140737488351232 → (∀ x ∈ l1, (Lit.int .i64 x.f0).wf = true ∧ (Lit.int .i64 x.f1).wf = true ∧ (Lit.int .i64 x.f2).wf = true) → tithelaw08_AdmitLoads.f l0 l1 = some true
end Go.Proofs.YtaoicceakgipgaaDoor.Q
