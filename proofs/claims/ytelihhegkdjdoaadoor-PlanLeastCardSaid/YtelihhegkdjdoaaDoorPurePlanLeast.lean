/- Proved here: PlanLeast answers true at all work, every row of reservations and every period. No conditions. -/
import Derived.Test.YtelihhegkdjdoaaDoorDefPlanLeast
import Derived.Test.YtelihhegkdjdoaaDoorPlanDoor
namespace Go.Proofs.YtelihhegkdjdoaaDoor.Pure
open Go Go.RowKit Tithe Go.Proofs.YtelihhegkdjdoaaDoor.L Go.Proofs.YtelihhegkdjdoaaDoorW.PrintWords Go.Proofs.YtelihhegkdjdoaaDoorW.PrintLast Go.Proofs.YtelihhegkdjdoaaDoorW.PrintMore
theorem PlanLeast : tithelaw23_PlanLeast.Pure := by
  intro l m p _ hl1 _ _ hm1 _ _
  refine Evt.ex ?_
  obtain ⟨Q, P, e, n, q1, q2, q3, _⟩ := Least_rel (l := l) (m := m) (by omega) (by omega) p
  unfold tithelaw23_PlanLeast.f
  exact Evt.bind q1 (Evt.bind q2 (Evt.ifp (by simp) (Evt.call (num23 e) (Evt.ifp q3 (Evt.bind sure23_evt (Evt.pure fun _ => rfl))))))
end Go.Proofs.YtelihhegkdjdoaaDoor.Pure
