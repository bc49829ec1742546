/- Proved here: what the machine does at calls of the functions that the laws reach is what plain functions of the same names say, or a row of the given statement out of that. No conditions. Written by a program of this session over the printer of the kit. -/
import Derived.Test.YtfmchkplnglepaaDoorQx71
import Derived.Test.YtfmchkplnglepaaDoorOpen
namespace Go.Proofs.YtfmchkplnglepaaDoor.Q
open Go.RowKit Go.Proofs.YtfmchkplnglepaaDoorW.PrintWords Go.Proofs.YtfmchkplnglepaaDoorW.PrintLast Go.Proofs.YtfmchkplnglepaaDoorW.PrintMore
set_option linter.unusedVariables false
namespace OfHeapPlays
theorem O62 : Opens Tryd.prog k62 62 (fun x => (Lit.int .i64 x.f0).wf = true ∧ (Lit.int .i64 x.f1).wf = true ∧ (Lit.int .i64 x.f2).wf = true) :=
  Opens.struct3 (proj := fun x : S62 => (x.f0, x.f1, x.f2)) (fun a b c => (⟨a, b, c⟩ : S62)) (fun _ _ _ => rfl) Tryd.underlying62 (Opens.int Tryd.underlying3) (Opens.int Tryd.underlying3) (Opens.int Tryd.underlying3) (by kernel_rfl) (by kernel_rfl) (by kernel_rfl) (by kernel_rfl) (by kernel_rfl) (by kernel_rfl) (by kernel_rfl)
end OfHeapPlays
def tithelaw05_HeapPlays.Pure : Prop := ∀ (l0 : List (S62)), l0.length ≤ maxLen → l0.length * 24 ≤ 140737488351232 → (∀ x ∈ l0, (Lit.int .i64 x.f0).wf = true ∧ (Lit.int .i64 x.f1).wf = true ∧ (Lit.int .i64 x.f2).wf = true) → tithelaw05_HeapPlays.f l0 = some true
end Go.Proofs.YtfmchkplnglepaaDoor.Q
