/- Proved: the law EdfMisses over its printed function: edf.Missed answers what the reference answers, and the plan stays. No conditions. -/
import Derived.Test.YthhaikkicabplaaRDefEdfMisses
import Derived.Test.YthhaikkicabplaaREdfRefMiss
namespace Go.Proofs.YthhaikkicabplaaR.Pure
open Go Go.RowKit Tithe Go.Proofs.YthhaikkicabplaaR.X Go.Proofs.YthhaikkicabplaaRW.PrintWords Go.Proofs.YthhaikkicabplaaRW.PrintLast Go.Proofs.YthhaikkicabplaaRW.PrintMore

theorem EdfMisses : tithelaw10_EdfMisses.Pure := by
  intro l pl _ hl _ _ hpl _
  refine Evt.ex ?_
  have hll : l.length ≤ 140737488351232 := by omega
  obtain ⟨o, e, ho, hoe⟩ := Missed_evt l hll pl
  obtain ⟨o', e', ho', hoe'⟩ := refMissed_evt l hll pl
  obtain ⟨rfl, rfl⟩ := hoe.uniq hoe'
  unfold tithelaw10_EdfMisses.f
  simp only [List.nil_append, Option.bind_some]
  exact Evt.ifp (by simp; omega) (Evt.bind (items_evt l hl) (Evt.bind ho (Evt.bind ho' (Evt.bind (same_true o (hoe.length hll)) (Evt.ifp rfl (Evt.call (num_opt e) (Evt.ifp rfl
    (Evt.bind (same_true pl (by omega)) (Evt.ifp rfl (Evt.bind works_evt (Evt.pure fun _ => rfl)))))))))))
end Go.Proofs.YthhaikkicabplaaR.Pure
