/- Proved here: what the walk says of HeapPops is what its row asks. No conditions. -/
import Derived.Test.YtfmchkplnglepaaDefHeapPops
import Derived.Test.YtfmchkplnglepaaAid
namespace Go.Proofs.Ytfmchkplnglepaa.Pure
open Go Go.RowKit Go.Proofs.Ytfmchkplnglepaa.R
theorem HeapPops : tithelaw05_HeapPops.Pure := by
  unfold tithelaw05_HeapPops.Pure
  intro l0 h _ hw
  have e : maxLen = 9223372036854775807 := rfl
  unfold tithelaw05_HeapPops.f
  rw [if_pos ⟨by omega, fun x hx => Tithe.wf64 (hw x hx).2.1⟩]
end Go.Proofs.Ytfmchkplnglepaa.Pure
