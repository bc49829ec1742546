/- Proved here: what the walk says of AdmitLoads is what its row asks. No conditions. -/
import Derived.Test.YtaoicceakgipgaaDoorDefAdmitLoads
namespace Go.Proofs.YtaoicceakgipgaaDoor.Pure
open Go Go.RowKit Go.Proofs.YtaoicceakgipgaaDoor.Q
theorem AdmitLoads : tithelaw08_AdmitLoads.Pure := by
  unfold tithelaw08_AdmitLoads.Pure
  intro l0 l1
  intros
  have e : maxLen = 9223372036854775807 := rfl
  unfold tithelaw08_AdmitLoads.f
  rw [if_pos (by omega), if_pos (by omega)]
end Go.Proofs.YtaoicceakgipgaaDoor.Pure
