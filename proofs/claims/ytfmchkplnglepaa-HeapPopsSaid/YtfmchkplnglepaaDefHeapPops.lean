/- Proved here: what the machine does at calls of the functions that the laws reach is what plain functions of the same names say, or a row of the given statement out of that. No conditions. Written by a program of this session over the printer of the kit. -/
import Derived.Test.YtfmchkplnglepaaRx35
import Derived.Test.YtfmchkplnglepaaOpen
namespace Go.Proofs.Ytfmchkplnglepaa.R
open Go.RowKit Go.Proofs.YtfmchkplnglepaaW.PrintWords Go.Proofs.YtfmchkplnglepaaW.PrintLast Go.Proofs.YtfmchkplnglepaaW.PrintMore
set_option linter.unusedVariables false
namespace OfHeapPops
theorem O49 : Opens Try.prog k49 49 (fun x => (Lit.int .i64 x.f0).wf = true ∧ (Lit.int .i64 x.f1).wf = true ∧ (Lit.int .i64 x.f2).wf = true) :=
  Opens.struct3 (proj := fun x : S49 => (x.f0, x.f1, x.f2)) (fun a b c => (⟨a, b, c⟩ : S49)) (fun _ _ _ => rfl) Try.underlying49 (Opens.int Try.underlying3) (Opens.int Try.underlying3) (Opens.int Try.underlying3) (by kernel_rfl) (by kernel_rfl) (by kernel_rfl) (by kernel_rfl) (by kernel_rfl) (by kernel_rfl) (by kernel_rfl)
end OfHeapPops
def tithelaw05_HeapPops.Pure : Prop := ∀ (l0 : List (S49)), l0.length ≤ maxLen → l0.length * 24 ≤ 140737488351232 → (∀ x ∈ l0, (Lit.int .i64 x.f0).wf = true ∧ (Lit.int .i64 x.f1).wf = true ∧ (Lit.int .i64 x.f2).wf = true) → tithelaw05_HeapPops.f l0 = some true
end Go.Proofs.Ytfmchkplnglepaa.R
