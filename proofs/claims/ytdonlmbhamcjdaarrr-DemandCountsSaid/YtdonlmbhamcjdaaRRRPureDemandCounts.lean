/- Proved here: DemandCounts answers true at all work and every time. No conditions. -/
import Derived.Test.YtdonlmbhamcjdaaRRRDefDemandCounts
import Derived.Test.YtdonlmbhamcjdaaRRRDemDue
namespace Go.Proofs.YtdonlmbhamcjdaaRRR.Pure
open Go Go.RowKit Tithe Go.Proofs.YtdonlmbhamcjdaaRRR.E Go.Proofs.YtdonlmbhamcjdaaRRRW.PrintWords Go.Proofs.YtdonlmbhamcjdaaRRRW.PrintLast Go.Proofs.YtdonlmbhamcjdaaRRRW.PrintMore

theorem refRequests_eq (x : S43) (t : Int) : ∃ v e, demand_Requests.f x.f0 x.f1 x.f2 x.f3 t = some (v, e) ∧ ∃ n, titheref20_Requests.f x.f0 x.f1 x.f2 x.f3 t = some (v, n) ∧ tithelaw20_num.f e = some n := by
  unfold titheref20_Requests.f
  rw [One_eq, time_eq]
  by_cases hx : okp x
  · rw [if_pos hx]
    by_cases ht : 0 ≤ t ∧ t ≤ 1073741824
    · refine ⟨_, _, Requests_ok hx ht.1 ht.2, 0, ?_, rfl⟩
      rw [decide_eq_true ht]
      simp only [Option.bind_some, if_true]
      rw [ref_requests_ok hx ht.1 (by omega)]; rfl
    · refine ⟨_, _, Requests_late hx ht, 1, ?_, rfl⟩
      rw [decide_eq_false ht]; rfl
  · rw [if_neg hx]
    exact ⟨_, _, Requests_bad hx t, 2, rfl, rfl⟩
theorem refDue_ok {x : S43} (hx : okp x) {t : Int} (h0 : 0 ≤ t) (h1 : t ≤ 1073741824) : titheref20_Due.f x.f0 x.f1 x.f2 x.f3 t = some (du x t, 0) := by
  have hb := du_bounds hx h0 h1
  have hx' := hx
  obtain ⟨a, b, c, d, e, _⟩ := hx'
  unfold titheref20_Due.f
  rw [One_eq, time_eq, if_pos hx, decide_eq_true ⟨h0, h1⟩]
  simp only [Option.bind_some, if_true]
  unfold du at *
  by_cases h : t < x.f2
  · rw [if_pos h, if_pos h]
  · rw [if_neg h] at hb
    rw [if_neg h, if_neg h]
    have q0 : 0 ≤ (t - x.f2) / x.f0 := Int.ediv_nonneg (by omega) (by omega)
    have q1 : (t - x.f2) / x.f0 ≤ t - x.f2 := Int.ediv_le_self _ (by omega)
    rw [if_neg (by omega), w64 (n := t - x.f2) (by omega) (by omega), tdiv_pos (by omega), w64 (n := (t - x.f2) / x.f0) (by omega) (by omega), w64 (n := (t - x.f2) / x.f0 + 1) (by omega) (by omega), Int.mul_comm, w64 (by omega) (by omega)]
theorem refDue_eq (x : S43) (t : Int) : ∃ v e, demand_Due.f x.f0 x.f1 x.f2 x.f3 t = some (v, e) ∧ ∃ n, titheref20_Due.f x.f0 x.f1 x.f2 x.f3 t = some (v, n) ∧ tithelaw20_num.f e = some n := by
  by_cases hx : okp x
  · by_cases ht : 0 ≤ t ∧ t ≤ 1073741824
    · exact ⟨_, _, Due_ok hx ht.1 ht.2, 0, refDue_ok hx ht.1 ht.2, rfl⟩
    · refine ⟨_, _, Due_late hx ht, 1, ?_, rfl⟩
      unfold titheref20_Due.f
      rw [One_eq, time_eq, if_pos hx, decide_eq_false ht]; rfl
  · refine ⟨_, _, Due_bad hx t, 2, ?_, rfl⟩
    unfold titheref20_Due.f
    rw [One_eq, if_neg hx]; rfl
/-- all that is due till a time -/
def dsum (l : List S43) (t : Int) : Int := (l.map fun x => du x t).sum
theorem Whole_evt (l : List S43) (t : Int) (hl : l.length ≤ 4398046511104) : ∃ v e, Evt (fun k => demand_Whole.f k l t) (v, e) ∧ ∃ n, Evt (fun k => titheref20_Whole.f k l t) (v, n) ∧ tithelaw20_num.f e = some n := by
  by_cases hv : vcode l = 0
  · obtain ⟨h8, hok⟩ := vcode_ok.1 hv
    have hve : verr l = none := by unfold verr; rw [if_pos hv]
    by_cases ht : 0 ≤ t ∧ t ≤ 1073741824
    · refine ⟨dsum l t, none, ?_, 0, ?_, rfl⟩
      · unfold demand_Whole.f
        refine Evt.bind (Valid_evt l hl) ?_
        rw [hve]
        refine Evt.ifp rfl (Evt.call (is_eq t 0 1073741824) ?_)
        rw [decide_eq_true ht]
        refine Evt.ifp rfl ?_
        have key : ∀ (d i : Nat) (acc : Int), i + d = l.length → 0 ≤ acc → acc ≤ i * 2251799813685248 → Evt (fun k => demand_Whole.l0 k t acc l (l.length : Int) i) (acc + dsum (l.drop i) t, none) := by
          intro d
          induction d with
          | zero =>
            intro i acc hi a0 a1
            refine Evt.succ (Evt.pure fun k => ?_)
            simp only [demand_Whole.l0]
            rw [if_neg (by omega), List.drop_of_length_le (by omega)]
            simp [dsum]
          | succ d ih =>
            intro i acc hi a0 a1
            have hx := hok _ (List.getElem_mem (show i < l.length by omega))
            have hb := du_bounds hx ht.1 ht.2
            refine Evt.succ ?_
            simp only [demand_Whole.l0]
            rw [w1 i (by omega)]
            refine Evt.ifp (by omega) (Evt.ifp (by omega) (Evt.ifp (by omega) (Evt.call (a := du l[i] t) ?_ ?_)))
            · rw [rd_get (by omega)]; exact due_ok hx ht.1 ht.2
            · rw [w64 (n := acc + du l[i] t) (by omega) (by omega), List.drop_eq_getElem_cons (by omega)]
              have := ih (i + 1) (acc + du l[i] t) (by omega) (by omega) (by omega)
              rw [show acc + dsum (l[i] :: l.drop (i + 1)) t = acc + du l[i] t + dsum (l.drop (i + 1)) t by simp only [dsum, List.map_cons, List.sum_cons]; omega]
              exact this
        have := key l.length 0 0 (by omega) (by omega) (by omega)
        simpa using this
      · unfold titheref20_Whole.f
        refine Evt.bind (refValid_evt l hl) ?_
        rw [hv]
        refine Evt.ifp rfl (Evt.call (time_eq t) ?_)
        rw [decide_eq_true ht]
        refine Evt.ifp rfl ?_
        have key : ∀ (d i : Nat) (acc : Int), i + d = l.length → 0 ≤ acc → acc ≤ i * 2251799813685248 → Evt (fun k => titheref20_Whole.l0 k l t acc i) (acc + dsum (l.drop i) t, 0) := by
          intro d
          induction d with
          | zero =>
            intro i acc hi a0 a1
            refine Evt.succ (Evt.pure fun k => ?_)
            simp only [titheref20_Whole.l0]
            rw [if_neg (by omega), List.drop_of_length_le (by omega)]
            simp [dsum]
          | succ d ih =>
            intro i acc hi a0 a1
            have hx := hok _ (List.getElem_mem (show i < l.length by omega))
            have hb := du_bounds hx ht.1 ht.2
            refine Evt.succ ?_
            simp only [titheref20_Whole.l0]
            rw [w1 i (by omega)]
            refine Evt.ifp (by omega) (Evt.ifp (by omega) (Evt.call (a := (du l[i] t, 0)) ?_ ?_))
            · rw [rd_get (by omega)]; exact refDue_ok hx ht.1 ht.2
            · simp only []
              rw [w64 (n := acc + du l[i] t) (by omega) (by omega), List.drop_eq_getElem_cons (by omega)]
              have := ih (i + 1) (acc + du l[i] t) (by omega) (by omega) (by omega)
              rw [show acc + dsum (l[i] :: l.drop (i + 1)) t = acc + du l[i] t + dsum (l.drop (i + 1)) t by simp only [dsum, List.map_cons, List.sum_cons]; omega]
              exact this
        have := key l.length 0 0 (by omega) (by omega) (by omega)
        simpa using this
    · refine ⟨0, some 1, ?_, 1, ?_, rfl⟩
      · unfold demand_Whole.f
        refine Evt.bind (Valid_evt l hl) ?_
        rw [hve]
        refine Evt.ifp rfl (Evt.call (is_eq t 0 1073741824) ?_)
        rw [decide_eq_false ht]
        exact Evt.ifn (by simp) (Evt.pure fun _ => rfl)
      · unfold titheref20_Whole.f
        refine Evt.bind (refValid_evt l hl) ?_
        rw [hv]
        refine Evt.ifp rfl (Evt.call (time_eq t) ?_)
        rw [decide_eq_false ht]
        exact Evt.ifn (by simp) (Evt.pure fun _ => rfl)
  · have hve : verr l = some (vcode l) := by unfold verr; rw [if_neg hv]
    refine ⟨0, some (vcode l), ?_, vcode l, ?_, rfl⟩
    · unfold demand_Whole.f
      refine Evt.bind (Valid_evt l hl) ?_
      rw [hve]
      exact Evt.ifn (by simp) (Evt.pure fun _ => rfl)
    · unfold titheref20_Whole.f
      exact Evt.bind (refValid_evt l hl) (Evt.ifn hv (Evt.pure fun _ => rfl))

theorem j0_evt (l : List S43) (hl : l.length < 4398046511104) (t : Int) (x : S43) : Evt (fun k => tithelaw20_DemandCounts.j0 k l t x.f0 x.f1 x.f2 x.f3) true := by
  refine Evt.succ ?_
  simp only [tithelaw20_DemandCounts.j0]
  obtain ⟨v1, e1, q1, n1, r1, s1⟩ := refRequests_eq x t
  obtain ⟨v2, e2, q2, n2, r2, s2⟩ := refDue_eq x t
  obtain ⟨v3, e3, q3, n3, r3, s3⟩ := Whole_evt l t (by omega)
  refine Evt.call q1 (Evt.call r1 (Evt.call q2 (Evt.call r2 (Evt.call (twin_ok l hl) (Evt.bind q3 (Evt.bind r3 ?_))))))
  refine Evt.ifp rfl (Evt.call s1 (Evt.ifp rfl (Evt.ifp rfl (Evt.call s2 (Evt.ifp rfl (Evt.ifp rfl (Evt.call s3 (Evt.ifp rfl ?_))))))))
  refine Evt.call (twin_ok l hl) (Evt.bind (Valid_evt l (by omega)) (Evt.call (num_verr l) (Evt.bind (refValid_evt l (by omega)) (Evt.ifp rfl (Evt.bind works_evt (Evt.pure fun _ => rfl))))))

theorem DemandCounts : tithelaw20_DemandCounts.Pure := by
  intro l t _ hlen _ _
  refine Evt.ex ?_
  unfold tithelaw20_DemandCounts.f
  by_cases h : (l.length : Int) > 0
  · exact Evt.ifp h (Evt.ifp (by omega) (j0_evt l (by omega) t (rd_T43 l 0)))
  · exact Evt.ifn h (j0_evt l (by omega) t ⟨0, 0, 0, 0⟩)
end Go.Proofs.YtdonlmbhamcjdaaRRR.Pure
