/- Proved here: what the walk says of DemandSerial is what its row asks. No conditions. -/
import Derived.Test.YtdonlmbhamcjdaaRRRDefDemandSerial
namespace Go.Proofs.YtdonlmbhamcjdaaRRR.Pure
open Go Go.RowKit Go.Proofs.YtdonlmbhamcjdaaRRR.E
theorem DemandSerial : tithelaw20_DemandSerial.Pure := by
  unfold tithelaw20_DemandSerial.Pure
  intro l0 a1 _ hlen _ _
  unfold tithelaw20_DemandSerial.f
  rw [if_pos (by omega)]
end Go.Proofs.YtdonlmbhamcjdaaRRR.Pure
