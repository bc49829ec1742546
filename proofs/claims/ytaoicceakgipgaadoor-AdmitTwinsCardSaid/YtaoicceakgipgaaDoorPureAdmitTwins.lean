/- Proved here: what the walk says of AdmitTwins is what its row asks. No conditions. -/
import Derived.Test.YtaoicceakgipgaaDoorDefAdmitTwins
namespace Go.Proofs.YtaoicceakgipgaaDoor.Pure
open Go Go.RowKit Go.Proofs.YtaoicceakgipgaaDoor.T
theorem AdmitTwins : tithelaw08_AdmitTwins.Pure := by
  unfold tithelaw08_AdmitTwins.Pure
  intro l0 l1 h _ _ h2 _ _
  have e : maxLen = 9223372036854775807 := rfl
  unfold tithelaw08_AdmitTwins.f
  rw [if_pos (by omega)]
end Go.Proofs.YtaoicceakgipgaaDoor.Pure
