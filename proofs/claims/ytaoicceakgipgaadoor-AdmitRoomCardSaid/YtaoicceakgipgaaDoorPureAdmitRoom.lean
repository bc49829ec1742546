/- Proved here: what the walk says of AdmitRoom is what its row asks. No conditions. -/
import Derived.Test.YtaoicceakgipgaaDoorDefAdmitRoom
namespace Go.Proofs.YtaoicceakgipgaaDoor.Pure
open Go Go.RowKit Go.Proofs.YtaoicceakgipgaaDoor.Q
theorem AdmitRoom : tithelaw08_AdmitRoom.Pure := by
  unfold tithelaw08_AdmitRoom.Pure
  intros
  rfl
end Go.Proofs.YtaoicceakgipgaaDoor.Pure
