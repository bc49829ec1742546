/- Proved here: ResponseTimes answers true at all work, every place and every row of reservations. No conditions. -/
import Derived.Test.YtdonlmbhamcjdaaRRRDefResponseTimes
import Derived.Test.YtdonlmbhamcjdaaRRRRTime
namespace Go.Proofs.YtdonlmbhamcjdaaRRR.Pure
open Go Go.RowKit Tithe Go.Proofs.YtdonlmbhamcjdaaRRR.F Go.Proofs.YtdonlmbhamcjdaaRRRW.PrintWords Go.Proofs.YtdonlmbhamcjdaaRRRW.PrintLast Go.Proofs.YtdonlmbhamcjdaaRRRW.PrintMore

theorem works22 : tithelaw22_works.f 60 = some true := by decide +kernel
theorem works22_evt : Evt (fun k => tithelaw22_works.f k) true := Evt.of_mono (fun k => tithelaw22_works.mono k) works22
theorem num22 (e : Option Int) : tithelaw22_num.f e = some (nm e) := by
  unfold tithelaw22_num.f nm
  cases e <;> rfl
theorem twin22 (l : List S43) (h : l.length < 4398046511104) : tithelaw22_twin.f l = some l := by
  unfold tithelaw22_twin.f
  rw [if_pos (by simpa using h)]; rfl
theorem row22 (l : List S64) (h : l.length < 8796093022208) : tithelaw22_row.f l = some l := by
  unfold tithelaw22_row.f
  rw [if_pos (by simpa using h)]; rfl
theorem ints22 (a : List Int) (ha : a.length ≤ 4398046511104) : Evt (fun k => tithelaw22_ints.f k a a) true := by
  unfold tithelaw22_ints.f
  refine Evt.ifp rfl ?_
  have key : ∀ (d p : Nat), p + d = a.length → Evt (fun k => tithelaw22_ints.l0 k a a p) true := by
    intro d
    induction d with
    | zero =>
      intro p hp
      refine Evt.succ (Evt.pure fun k => ?_)
      simp only [tithelaw22_ints.l0]
      rw [if_neg (by omega)]
    | succ d ih =>
      intro p hp
      refine Evt.succ ?_
      simp only [tithelaw22_ints.l0, if_true]
      rw [w1 p (by omega)]
      exact Evt.ifp (by omega) (Evt.ifp (by omega) (Evt.ifp (by omega) (ih (p + 1) (by omega))))
  exact key a.length 0 (by omega)

theorem ResponseTimes : tithelaw22_ResponseTimes.Pure := by
  intro l i m _ hl1 _ _ _ hm1 _
  refine Evt.ex ?_
  have hl : l.length < 4398046511104 := by omega
  have hm : m.length < 8796093022208 := by omega
  unfold tithelaw22_ResponseTimes.f
  obtain ⟨v1, e1, n1, q1, r1, s1⟩ := Time_rel (l := l) (m := m) (by omega) (by omega) i
  obtain ⟨L, e2, n2, q2, r2, s2, hL⟩ := All_rel (l := l) (m := m) (by omega) (by omega)
  refine Evt.call (twin22 l hl) (Evt.call (row22 m hm) (Evt.bind q1 (Evt.bind r1 (Evt.call (twin22 l hl) (Evt.call (row22 m hm) (Evt.bind q2 (Evt.bind r2 ?_)))))))
  refine Evt.ifp rfl (Evt.call (num22 e1) (Evt.ifp s1 (Evt.bind (ints22 L (by omega)) (Evt.ifp rfl (Evt.call (num22 e2) (Evt.ifp s2 ?_))))))
  refine Evt.call (twin22 l hl) (Evt.call (row22 m hm) (Evt.bind (a := e2) ?_ (Evt.call (num22 e2) (Evt.ifp s2 (Evt.bind works22_evt (Evt.pure fun _ => rfl))))))
  unfold response_Fits.f
  exact Evt.bind q2 (Evt.pure fun _ => rfl)
end Go.Proofs.YtdonlmbhamcjdaaRRR.Pure
