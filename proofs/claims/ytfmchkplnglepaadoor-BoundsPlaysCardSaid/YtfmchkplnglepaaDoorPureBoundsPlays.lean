/- Proved here: what the walk says of BoundsPlays is what its row asks. No conditions. -/
import Derived.Test.YtfmchkplnglepaaDoorDefBoundsPlays
import Derived.Test.YtfmchkplnglepaaDoorAid
namespace Go.Proofs.YtfmchkplnglepaaDoor.Pure
open Go Go.RowKit Go.Proofs.YtfmchkplnglepaaDoor.Q
theorem BoundsPlays : tithelaw11_BoundsPlays.Pure := by
  unfold tithelaw11_BoundsPlays.Pure
  intro l0 h _ hw
  have e : maxLen = 9223372036854775807 := rfl
  unfold tithelaw11_BoundsPlays.f
  rw [if_pos ⟨by omega, fun x hx => Tithe.wf64 (hw x hx).2.1⟩]
end Go.Proofs.YtfmchkplnglepaaDoor.Pure
