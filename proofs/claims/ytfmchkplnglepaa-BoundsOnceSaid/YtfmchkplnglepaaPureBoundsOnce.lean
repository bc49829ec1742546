/- Proved here: what the walk says of BoundsOnce is what its row asks. No conditions. -/
import Derived.Test.YtfmchkplnglepaaDefBoundsOnce
namespace Go.Proofs.Ytfmchkplnglepaa.Pure
open Go Go.RowKit Go.Proofs.Ytfmchkplnglepaa.U
theorem BoundsOnce : tithelaw11_BoundsOnce.Pure := by
  unfold tithelaw11_BoundsOnce.Pure
  intro l0 a1 h _ _ _
  have e : maxLen = 9223372036854775807 := rfl
  unfold tithelaw11_BoundsOnce.f
  rw [if_pos (by omega)]
end Go.Proofs.Ytfmchkplnglepaa.Pure
