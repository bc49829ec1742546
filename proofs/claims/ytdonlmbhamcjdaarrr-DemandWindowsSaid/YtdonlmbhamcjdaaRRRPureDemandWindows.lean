/- Proved here: DemandWindows answers true at every entry and every stretch. No conditions. -/
import Derived.Test.YtdonlmbhamcjdaaRRRDefDemandWindows
import Derived.Test.YtdonlmbhamcjdaaRRRDemDue
namespace Go.Proofs.YtdonlmbhamcjdaaRRR.Pure
open Go Go.RowKit Tithe Go.Proofs.YtdonlmbhamcjdaaRRR.E Go.Proofs.YtdonlmbhamcjdaaRRRW.PrintWords Go.Proofs.YtdonlmbhamcjdaaRRRW.PrintLast Go.Proofs.YtdonlmbhamcjdaaRRRW.PrintMore

theorem j1_evt {x : S43} (hx : okp x) {T : Int} (h0 : 0 ≤ T) (h1 : T < 200) : Evt (fun k => tithelaw20_DemandWindows.j1 k T false x.f0 x.f1 x.f2 x.f3) true := by
  have hx' := hx
  obtain ⟨a, b, c, d, e, f, _⟩ := hx'
  refine Evt.succ ?_
  simp only [tithelaw20_DemandWindows.j1]
  rw [w64 (n := x.f2 + T) (by omega) (by omega), w64 (n := x.f2 + T + x.f0) (by omega) (by omega)]
  refine Evt.ifn (by simp) (Evt.call (Due_ok hx (by omega) (by omega)) (Evt.call (Due_ok hx (by omega) (by omega)) (Evt.ifp rfl (Evt.ifp rfl (Evt.ifp ?_ (Evt.bind works_evt (Evt.pure fun _ => rfl)))))))
  show du x (x.f2 + T + x.f0) = wrap64 (du x (x.f2 + T) + x.f1)
  have b1 := du_bounds hx (t := x.f2 + T) (by omega) (by omega)
  rw [w64 (by omega) (by omega)]
  unfold du
  rw [if_neg (by omega), if_neg (by omega), show x.f2 + T + x.f0 - x.f2 = T + 1 * x.f0 by omega, show x.f2 + T - x.f2 = T by omega, Int.add_mul_ediv_right _ _ (by omega), Int.mul_add, Int.mul_add]
  omega

theorem loop {x : S43} (hx : okp x) {F T : Int} (f0 : 0 ≤ F) (f1 : F < 200) (t0 : 0 ≤ T) (t1 : T < 200) : ∀ (d : Nat) (u had : Int), u + d = F + T → F ≤ u → had = x.f1 * (cl x.f0 u - cl x.f0 F) →
    Evt (fun k => tithelaw20_DemandWindows.l0 k F T (rq x T) none had u x.f0 x.f1 x.f2 x.f3) true := by
  have hx' := hx
  obtain ⟨a, b, c, d, _⟩ := hx'
  intro n
  induction n with
  | zero =>
    intro u had hu hF hh
    obtain rfl : u = F + T := by omega
    refine Evt.succ ?_
    simp only [tithelaw20_DemandWindows.l0]
    have bF := rq_bounds hx (t := F) (by omega) (by omega)
    have bT := rq_bounds hx (t := T) (by omega) (by omega)
    rw [w64 (n := F + T) (by omega) (by omega)]
    refine Evt.ifn (by omega) (Evt.call (Requests_ok hx (by omega) (by omega)) (Evt.call (Requests_ok hx (by omega) (by omega)) (Evt.ifp rfl (Evt.ifp rfl (Evt.ifp rfl ?_)))))
    simp only []
    rw [w64 (n := rq x F + rq x T) (by omega) (by omega)]
    have q1 : cl x.f0 (F + T) - cl x.f0 F ≤ cl x.f0 T := by have := cl_add (e := x.f0) (u := F) (v := T) a; omega
    have q2 : cl x.f0 T ≤ cl x.f0 (F + T) := cl_mono a (by omega)
    have m1 : x.f1 * (cl x.f0 (F + T) - cl x.f0 F) ≤ rq x T := Int.mul_le_mul_of_nonneg_left q1 (by omega)
    have m2 : rq x T ≤ rq x (F + T) := Int.mul_le_mul_of_nonneg_left q2 (by omega)
    have m3 : rq x (F + T) = rq x F + x.f1 * (cl x.f0 (F + T) - cl x.f0 F) := by unfold rq; rw [Int.mul_sub]; omega
    rw [show decide (rq x (F + T) < rq x T) = false from decide_eq_false (by omega)]
    refine Evt.ifn (by omega) (Evt.ifn (by omega) ?_)
    by_cases hm : Int.tmod F x.f0 = 0
    · refine Evt.ifp hm (Evt.ifp ?_ (Evt.ifn (by omega) (j1_evt hx t0 t1)))
      rw [tmod_pos f0] at hm
      rw [hh, cl_mult a hm, show cl x.f0 F + cl x.f0 T - cl x.f0 F = cl x.f0 T by omega]
      rfl
    · exact Evt.ifn hm (Evt.ifn (by omega) (j1_evt hx t0 t1))
  | succ n ih =>
    intro u had hu hF hh
    refine Evt.succ ?_
    simp only [tithelaw20_DemandWindows.l0]
    have bu := rq_bounds hx (t := u) (by omega) (by omega)
    have q2 : cl x.f0 F ≤ cl x.f0 u := cl_mono a hF
    have hb0 : 0 ≤ had := by rw [hh]; exact Int.mul_nonneg (by omega) (by omega)
    have hb1 : had ≤ 2251799813685248 := by
      rw [hh, Int.mul_sub]
      have := rq_bounds hx (t := F) (by omega) (by omega)
      unfold rq at *; omega
    rw [w64 (n := F + T) (by omega) (by omega), w64 (n := u + 1) (by omega) (by omega), w64 (n := had + x.f1) (by omega) (by omega)]
    refine Evt.ifp (by omega) (Evt.ifn (by omega) ?_)
    have hs := cl_step (e := x.f0) (u := u) a
    by_cases hm : Int.tmod u x.f0 = 0
    · refine Evt.ifp hm (ih (u + 1) (had + x.f1) (by omega) (by omega) ?_)
      rw [tmod_pos (by omega)] at hm
      rw [if_pos hm] at hs
      rw [hs, hh, show cl x.f0 u + 1 - cl x.f0 F = (cl x.f0 u - cl x.f0 F) + 1 by omega, Int.mul_add x.f1 _ 1]; omega
    · refine Evt.ifn hm (ih (u + 1) had (by omega) (by omega) ?_)
      rw [tmod_pos (by omega)] at hm
      rw [if_neg hm, Int.add_zero] at hs
      rw [hs]; exact hh

theorem DemandWindows : tithelaw20_DemandWindows.Pure := by
  intro e c d p a1 a2 _ _ _ _ _ _
  refine Evt.ex ?_
  unfold tithelaw20_DemandWindows.f
  have hF := pmod (a := a1) (c := 200) (by omega) (by omega)
  have hT := pmod (a := a2) (c := 200) (by omega) (by omega)
  generalize Int.tmod (wrap64 (Int.tmod a1 200 + 200)) 200 = F at *
  generalize Int.tmod (wrap64 (Int.tmod a2 200 + 200)) 200 = T at *
  by_cases hx : okp ⟨e, c, d, p⟩
  · refine Evt.call (Requests_ok hx (t := T) (by omega) (by omega)) (Evt.call (One_eq ⟨e, c, d, p⟩) ?_)
    rw [if_pos hx]
    refine Evt.ifp rfl ?_
    exact loop hx hF.1 hF.2 hT.1 hT.2 T.toNat F 0 (by omega) (by omega) (by rw [Int.sub_self, Int.mul_zero])
  · refine Evt.call (Requests_bad hx T) (Evt.call (One_eq ⟨e, c, d, p⟩) ?_)
    rw [if_neg hx]
    exact Evt.ifn (by omega) (Evt.call (num_some 2) (Evt.ifp rfl (Evt.bind works_evt (Evt.pure fun _ => rfl))))
end Go.Proofs.YtdonlmbhamcjdaaRRR.Pure
