/- Proved here: AdmitNone answers true at every act. No conditions. -/
import Derived.Test.YtaoicceakgipgaaDoorDefAdmitNone
namespace Go.Proofs.YtaoicceakgipgaaDoor.Pure
open Go Go.RowKit Go.Proofs.YtaoicceakgipgaaDoor.N
theorem AdmitNone : tithelaw08_AdmitNone.Pure := fun _ _ _ _ _ _ => rfl
end Go.Proofs.YtaoicceakgipgaaDoor.Pure
