/- What the reference's Valid and Pick answer. No conditions. -/
import Derived.Test.YthhaikkicabplaaRXx12
import Derived.Test.YthhaikkicabplaaREdfBase
namespace Go.Proofs.YthhaikkicabplaaR.Pure
open Go Go.RowKit Tithe Go.Proofs.YthhaikkicabplaaR.X Go.Proofs.YthhaikkicabplaaRW.PrintWords Go.Proofs.YthhaikkicabplaaRW.PrintLast Go.Proofs.YthhaikkicabplaaRW.PrintMore

theorem ref_valid (q p s : Int) : Evt (fun k => titheref10_valid.f k q p s) (vI q p s) := by
  have t : ∀ b, b = true → Evt (fun k => titheref10_valid.j0 k b q p s) 2 := by
    intro b hb; refine Evt.succ ?_; simp only [titheref10_valid.j0]; exact Evt.ifp hb (Evt.pure fun _ => rfl)
  unfold titheref10_valid.f
  by_cases h1 : p < 1
  · refine Evt.ifp h1 ?_; rw [vI_two (by omega)]; exact t _ rfl
  · refine Evt.ifn h1 ?_
    by_cases h2 : p > 1048576
    · refine Evt.ifp h2 ?_; rw [vI_two (by omega)]; exact t _ rfl
    · refine Evt.ifn h2 ?_
      by_cases h3 : q < 1
      · refine Evt.ifp h3 ?_; rw [vI_two (by omega)]; exact t _ rfl
      · refine Evt.ifn h3 ?_
        by_cases h4 : q > p
        · rw [vI_two (by omega)]; exact t _ (by simpa using h4)
        · refine Evt.succ ?_; simp only [titheref10_valid.j0]
          refine Evt.ifn (by simpa using h4) ?_
          by_cases h5 : s < 0
          · refine Evt.ifp h5 ?_; rw [vI_one (by omega) (by omega)]; exact Evt.pure fun _ => rfl
          · refine Evt.ifn h5 ?_
            by_cases h6 : s > 1073741824
            · refine Evt.ifp h6 ?_; rw [vI_one (by omega) (by omega)]; exact Evt.pure fun _ => rfl
            · refine Evt.ifn h6 ?_; rw [vI_ok (by omega) (by omega)]; exact Evt.pure fun _ => rfl

theorem ref_Valid_evt (l : List S43) (hl : l.length ≤ 140737488351232) : Evt (fun k => titheref10_Valid.f k l) (vLL l) := by
  have key : ∀ (d i : Nat), i + d = l.length → Evt (fun k => titheref10_Valid.l0 k l i) (vL (l.drop i)) := by
    intro d
    induction d with
    | zero =>
      intro i h
      refine Evt.succ ?_
      simp only [titheref10_Valid.l0]
      rw [List.drop_of_length_le (by omega)]
      exact Evt.ifn (by omega) (Evt.pure fun _ => rfl)
    | succ d ih =>
      intro i h
      have hi : i < l.length := by omega
      refine Evt.succ ?_
      simp only [titheref10_Valid.l0]
      rw [List.drop_eq_getElem_cons hi]
      refine Evt.ifp (by omega) (Evt.ifp (by omega) ?_)
      refine Evt.bind (ref_valid _ _ _) ?_
      rw [rd43 hi]
      simp only [vL]
      by_cases hv : vI l[i].f0 l[i].f1 l[i].f2 = 0
      · rw [if_pos hv]
        refine Evt.ifp hv ?_
        rw [w64 (by omega) (by omega)]
        have := ih (i + 1) (by omega)
        rwa [show ((i + 1 : Nat) : Int) = (i : Int) + 1 by omega] at this
      · rw [if_neg hv]
        exact Evt.ifn hv (Evt.pure fun _ => rfl)
  unfold titheref10_Valid.f vLL
  by_cases h : (l.length : Int) > 64
  · rw [if_pos h]
    exact Evt.ifp h (Evt.pure fun _ => rfl)
  · rw [if_neg h]
    exact Evt.ifn h (key l.length 0 (by omega))

end Go.Proofs.YthhaikkicabplaaR.Pure
