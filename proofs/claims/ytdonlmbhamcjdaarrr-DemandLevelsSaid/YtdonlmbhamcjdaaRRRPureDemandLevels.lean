/- Proved here: DemandLevels answers true at all work, every place and time. No conditions. -/
import Derived.Test.YtdonlmbhamcjdaaRRRDefDemandLevels
import Derived.Test.YtdonlmbhamcjdaaRRRDemLevel
namespace Go.Proofs.YtdonlmbhamcjdaaRRR.Pure
open Go Go.RowKit Tithe Go.Proofs.YtdonlmbhamcjdaaRRR.E Go.Proofs.YtdonlmbhamcjdaaRRRW.PrintWords Go.Proofs.YtdonlmbhamcjdaaRRRW.PrintLast Go.Proofs.YtdonlmbhamcjdaaRRRW.PrintMore

theorem ints_evt (a : List Int) (ha : a.length ≤ 4398046511104) : Evt (fun k => tithelaw20_ints.f k a a) true := by
  unfold tithelaw20_ints.f
  refine Evt.ifp rfl ?_
  have key : ∀ (d p : Nat), p + d = a.length → Evt (fun k => tithelaw20_ints.l0 k a a p) true := by
    intro d
    induction d with
    | zero =>
      intro p hp
      refine Evt.succ (Evt.pure fun k => ?_)
      simp only [tithelaw20_ints.l0]
      rw [if_neg (by omega)]
    | succ d ih =>
      intro p hp
      refine Evt.succ ?_
      simp only [tithelaw20_ints.l0, if_true]
      rw [w1 p (by omega)]
      exact Evt.ifp (by omega) (Evt.ifp (by omega) (Evt.ifp (by omega) (ih (p + 1) (by omega))))
  exact key a.length 0 (by omega)

theorem DemandLevels : tithelaw20_DemandLevels.Pure := by
  intro l i t _ hlen _ _ _
  refine Evt.ex ?_
  have hl : l.length < 4398046511104 := by omega
  unfold tithelaw20_DemandLevels.f
  obtain ⟨v1, e1, n1, q1, r1, s1⟩ := Level_evt (l := l) (by omega) i t
  obtain ⟨v2, e2, n2, q2, r2, s2⟩ := Busy_evt (l := l) (by omega) i
  have hfin : ∀ (k : Nat) (a : List Int), Evt (fun k => (tithelaw20_works.f k).bind fun t351 => some t351) true := fun _ _ => Evt.bind works_evt (Evt.pure fun _ => rfl)
  refine Evt.call (twin_ok l hl) (Evt.bind (Order_evt (by omega)) (Evt.bind (refOrder_all (by omega)) (Evt.call (twin_ok l hl) (Evt.bind q1 (Evt.bind r1 (Evt.call (twin_ok l hl) (Evt.bind q2 (Evt.bind r2 ?_))))))))
  by_cases hv : vcode l = 0
  · have h8 := (vcode_ok.1 hv).1
    rw [if_pos hv, if_pos hv]
    have ho : (ordl l).length = l.length := by rw [ordl_eq, List.length_map, ol_length]
    exact Evt.bind (ints_evt (ordl l) (by omega)) (Evt.ifp rfl (Evt.call num_none (Evt.ifp rfl (Evt.ifp rfl (Evt.call s1 (Evt.ifp rfl (Evt.ifp rfl (Evt.call s2 (Evt.ifp rfl (hfin 0 []))))))))))
  · rw [if_neg hv, if_neg hv]
    exact Evt.bind (ints_evt [] (by simp)) (Evt.ifp rfl (Evt.call (num_some _) (Evt.ifp rfl (Evt.ifp rfl (Evt.call s1 (Evt.ifp rfl (Evt.ifp rfl (Evt.call s2 (Evt.ifp rfl (hfin 0 []))))))))))
end Go.Proofs.YtdonlmbhamcjdaaRRR.Pure
