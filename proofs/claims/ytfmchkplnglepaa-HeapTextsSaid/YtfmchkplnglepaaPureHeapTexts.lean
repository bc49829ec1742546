/- Proved here: what the walk says of HeapTexts is what its row asks. No conditions. -/
import Derived.Test.YtfmchkplnglepaaDefHeapTexts
namespace Go.Proofs.Ytfmchkplnglepaa.Pure
open Go Go.RowKit Go.Proofs.Ytfmchkplnglepaa.U
theorem HeapTexts : tithelaw05_HeapTexts.Pure := by
  unfold tithelaw05_HeapTexts.Pure
  intro l0 h _ _
  have e : maxLen = 9223372036854775807 := rfl
  unfold tithelaw05_HeapTexts.f
  rw [if_pos (by omega)]
end Go.Proofs.Ytfmchkplnglepaa.Pure
