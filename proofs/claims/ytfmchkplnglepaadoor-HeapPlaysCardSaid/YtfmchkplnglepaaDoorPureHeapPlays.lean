/- Proved here: what the walk says of HeapPlays is what its row asks. No conditions. -/
import Derived.Test.YtfmchkplnglepaaDoorDefHeapPlays
import Derived.Test.YtfmchkplnglepaaDoorAid
namespace Go.Proofs.YtfmchkplnglepaaDoor.Pure
open Go Go.RowKit Go.Proofs.YtfmchkplnglepaaDoor.Q
theorem HeapPlays : tithelaw05_HeapPlays.Pure := by
  unfold tithelaw05_HeapPlays.Pure
  intro l0 h _ hw
  have e : maxLen = 9223372036854775807 := rfl
  unfold tithelaw05_HeapPlays.f
  rw [if_pos ⟨by omega, fun x hx => Tithe.wf64 (hw x hx).2.1⟩]
end Go.Proofs.YtfmchkplnglepaaDoor.Pure
