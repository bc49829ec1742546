/- Proved here: what the walk says of AdmitExact is what its row asks. No conditions. -/
import Derived.Test.YtaoicceakgipgaaDoorDefAdmitExact
namespace Go.Proofs.YtaoicceakgipgaaDoor.Pure
open Go Go.RowKit Go.Proofs.YtaoicceakgipgaaDoor.Q
theorem AdmitExact : tithelaw08_AdmitExact.Pure := by
  unfold tithelaw08_AdmitExact.Pure
  intro l0 h _ _
  have e : maxLen = 9223372036854775807 := rfl
  unfold tithelaw08_AdmitExact.f
  rw [if_pos (by omega)]
end Go.Proofs.YtaoicceakgipgaaDoor.Pure
