/- Proved here: ResponseChoices answers true at all work, every place and every row of reservations. No conditions. -/
import Derived.Test.YtadkgcjmacccnaaDefResponseChoices
import Derived.Test.YtadkgcjmacccnaaChs
namespace Go.Proofs.Ytadkgcjmacccnaa.Pure
open Go Go.RowKit Tithe Go.Proofs.Ytadkgcjmacccnaa.C Go.Proofs.YtadkgcjmacccnaaW.PrintWords Go.Proofs.YtadkgcjmacccnaaW.PrintLast Go.Proofs.YtadkgcjmacccnaaW.PrintMore
theorem works22 : tithelaw22_works.f 60 = some true := by decide +kernel
theorem works22_evt : Evt (fun k => tithelaw22_works.f k) true := Evt.of_mono (fun k => tithelaw22_works.mono k) works22
theorem twin22 (l : List S43) (h : l.length < 4398046511104) : tithelaw22_twin.f l = some l := by
  unfold tithelaw22_twin.f
  rw [if_pos (by simpa using h)]; rfl
theorem row22 (l : List S57) (h : l.length < 8796093022208) : tithelaw22_row.f l = some l := by
  unfold tithelaw22_row.f
  rw [if_pos (by simpa using h)]; rfl
theorem num22 (e : Option Int) : tithelaw22_num.f e = some (nm e) := by
  unfold tithelaw22_num.f nm
  cases e <;> rfl
theorem same22 (a : List S43) (ha : a.length ≤ 4398046511104) : Evt (fun k => tithelaw22_same.f k a a) true := by
  unfold tithelaw22_same.f
  simp only [if_true]
  have key : ∀ (d p : Nat), p + d = a.length → Evt (fun k => tithelaw22_same.l0 k a a p) true := by
    intro d
    induction d with
    | zero =>
      intro p hp
      refine Evt.succ ?_
      simp only [tithelaw22_same.l0]
      exact Evt.ifn (by omega) (Evt.pure fun _ => rfl)
    | succ d ih =>
      intro p hp
      refine Evt.succ ?_
      simp only [tithelaw22_same.l0]
      rw [w1 p (by omega)]
      exact Evt.ifp (by omega) (Evt.ifp (by omega) (Evt.ifp (by omega) (Evt.ifn (by simp) (ih (p + 1) (by omega)))))
  exact key a.length 0 (by omega)
theorem ResponseChoices : tithelaw22_ResponseChoices.Pure := by
  intro l a m _ hl1 _ _ _ hm1 _
  refine Evt.ex ?_
  unfold tithelaw22_ResponseChoices.f
  have hl : l.length ≤ 4398046511104 := by omega
  by_cases hlt : l.length < 4398046511104
  case neg => omega
  obtain ⟨L, e, n, q1, q2, q3, q4⟩ := Audsley_rel (l := l) (m := m) hl (by omega)
  obtain ⟨v, e2, n2, p1, p2, p3⟩ := Most_rel (l := l) (m := m) hl (by omega) a
  refine Evt.call (twin22 l hlt) (Evt.call (row22 m (by omega)) (Evt.bind q1 (Evt.bind q2 (Evt.call (row22 m (by omega)) (Evt.bind p1 (Evt.bind p2 (Evt.bind (same22 L (by omega)) (Evt.ifp rfl (Evt.call (num22 e) (Evt.ifp q3 (Evt.ifp rfl (Evt.call (num22 e2) (Evt.ifp p3 (Evt.bind (same22 l hl) (Evt.ifp rfl (Evt.bind works22_evt (Evt.pure fun _ => rfl)))))))))))))))))
end Go.Proofs.Ytadkgcjmacccnaa.Pure
