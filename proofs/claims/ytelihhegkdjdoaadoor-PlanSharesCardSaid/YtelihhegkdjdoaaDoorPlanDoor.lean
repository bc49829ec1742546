/- Budgets that suffice: the program's answers and the document's are one. No conditions. -/
import Derived.Test.YtelihhegkdjdoaaDoorPlanRef
import Derived.Test.YtelihhegkdjdoaaDoorMx8
import Derived.Test.YtelihhegkdjdoaaDoorMx15
import Derived.Test.YtelihhegkdjdoaaDoorMx15
import Derived.Test.YtelihhegkdjdoaaDoorMx8
namespace Go.Proofs.YtelihhegkdjdoaaDoor.Pure
open Go Go.RowKit Tithe Go.Proofs.YtelihhegkdjdoaaDoor.M Go.Proofs.YtelihhegkdjdoaaDoorW.PrintWords Go.Proofs.YtelihhegkdjdoaaDoorW.PrintLast Go.Proofs.YtelihhegkdjdoaaDoorW.PrintMore

theorem sure23 : tithelaw23_sure.f 60 = some true := by decide +kernel
theorem sure23_evt : Evt (fun k => tithelaw23_sure.f k) true := Evt.of_mono (fun k => tithelaw23_sure.mono k) sure23
theorem num23 (e : Option Int) : tithelaw23_num.f e = some (nm e) := rfl

theorem Fits_rel {l : List S52} {m : List S25} (hl : l.length ≤ 9223372036854775807) (hm : m.length ≤ 8796093021952) (q p : Int) :
    ∃ e n, Evt (fun k => plan_fits.f k l m q p) e ∧ titheref23_with.f m q p = some (m ++ [⟨q, p⟩]) ∧ Evt (fun k => titheref22_Fits.f k l (m ++ [⟨q, p⟩])) n ∧ nm e = n ∧ (e = none ↔ n = 0) ∧ (n = 0 → okr (q, p)) := by
  obtain ⟨L, e, n, q1, q2, q3, q4, _, q6⟩ := All_rel (l := l) (m := m ++ [⟨q, p⟩]) hl (by simp; omega)
  refine ⟨e, n, ?_, ?_, ?_, q3, q4, fun h => ?_⟩
  · unfold plan_fits.f
    refine Evt.ifp (by simp; omega) (Evt.call (a := m) (by simp) (Evt.ifp (by omega) (Evt.bind (a := e) ?_ (Evt.pure fun _ => rfl))))
    unfold response_Fits.f
    exact Evt.bind q1 (Evt.pure fun _ => rfl)
  · unfold titheref23_with.f
    rw [if_pos (by simp; omega)]
    simp only [List.nil_append, Option.bind_some]
    rw [if_pos (by omega)]
  · unfold titheref22_Fits.f
    exact Evt.bind q2 (Evt.pure fun _ => rfl)
  · have := (fc_row (q6 h)).2 ⟨q, p⟩ (by simp)
    exact this

theorem Least_loop {l : List S52} {m : List S25} (hl : l.length ≤ 9223372036854775807) (hm : m.length ≤ 8796093021952) {p : Int} (hp : p ≤ 1048576) :
    ∀ (d : Nat) (lo up : Int), up - lo ≤ d → 0 ≤ lo → lo < up → up ≤ p →
      ∃ Q : Int, Evt (fun k => plan_Least.l0 k l m p lo up) (Q, p, none) ∧ Evt (fun k => titheref23_Least.l0 k l m p lo up) (Q, p, 0) ∧ 1 ≤ Q ∧ Q ≤ p := by
  intro d
  induction d with
  | zero => intro lo up hd h0 h1; omega
  | succ d ih =>
    intro lo up hd h0 h1 h2
    by_cases hc : up - lo > 1
    · have hmid : wrap64 (Int.tdiv (wrap64 (lo + up)) 2) = (lo + up) / 2 := by
        rw [w64 (n := lo + up) (by omega) (by omega), tdiv_pos (by omega), w64 (by omega) (by omega)]
      obtain ⟨e, n, q1, q2, q3, q4, q5, _⟩ := Fits_rel (l := l) (m := m) hl hm ((lo + up) / 2) p
      have go1 : ∀ r, Evt (fun k => if e.isNone = true then plan_Least.l0 k l m p lo ((lo + up) / 2) else plan_Least.l0 k l m p ((lo + up) / 2) up) r → Evt (fun k => plan_Least.l0 k l m p lo up) r := by
        intro r h
        refine Evt.succ ?_
        simp only [plan_Least.l0]
        rw [w64 (n := up - lo) (by omega) (by omega), hmid]
        exact Evt.ifp hc (Evt.bind q1 h)
      have go2 : ∀ r, Evt (fun k => if n = 0 then titheref23_Least.l0 k l m p lo ((lo + up) / 2) else titheref23_Least.l0 k l m p ((lo + up) / 2) up) r → Evt (fun k => titheref23_Least.l0 k l m p lo up) r := by
        intro r h
        refine Evt.succ ?_
        simp only [titheref23_Least.l0]
        rw [w64 (n := lo + 1) (by omega) (by omega), hmid]
        exact Evt.ifp (by omega) (Evt.call q2 (Evt.bind q3 h))
      by_cases hn : n = 0
      · obtain rfl := q5.2 hn
        obtain ⟨Q, y1, y2, y3, y4⟩ := ih lo ((lo + up) / 2) (by omega) h0 (by omega) (by omega)
        exact ⟨Q, go1 _ (Evt.ifp rfl y1), go2 _ (Evt.ifp hn y2), y3, y4⟩
      · obtain ⟨Q, y1, y2, y3, y4⟩ := ih ((lo + up) / 2) up (by omega) (by omega) (by omega) h2
        exact ⟨Q, go1 _ (Evt.ifn (fun h => hn (q5.1 (Option.isNone_iff_eq_none.1 h))) y1), go2 _ (Evt.ifn hn y2), y3, y4⟩
    · obtain rfl : up = lo + 1 := by omega
      refine ⟨lo + 1, Evt.succ ?_, Evt.succ ?_, by omega, h2⟩
      · simp only [plan_Least.l0]
        rw [w64 (n := lo + 1 - lo) (by omega) (by omega)]
        exact Evt.ifn hc (Evt.pure fun _ => rfl)
      · simp only [titheref23_Least.l0]
        rw [w64 (n := lo + 1) (by omega) (by omega)]
        exact Evt.ifn (by omega) (Evt.pure fun _ => rfl)
theorem Least_rel {l : List S52} {m : List S25} (hl : l.length ≤ 9223372036854775807) (hm : m.length ≤ 8796093021952) (p : Int) :
    ∃ Q P e n, Evt (fun k => plan_Least.f k l m p) (Q, P, e) ∧ Evt (fun k => titheref23_Least.f k l m p) (Q, P, n) ∧ nm e = n ∧ (e = none ↔ n = 0) ∧ (n = 0 → okr (Q, P)) := by
  have bad : ∀ b : Bool, b = true → Evt (fun k => plan_Least.j0 k l m p b) (0, 0, some 2) ∧ Evt (fun k => titheref23_Least.j0 k l m p b) (0, 0, 2) := by
    rintro b rfl
    refine ⟨Evt.succ ?_, Evt.succ ?_⟩
    · simp only [plan_Least.j0]; exact Evt.ifp (by simp) (Evt.pure fun _ => rfl)
    · simp only [titheref23_Least.j0]; exact Evt.ifp (by simp) (Evt.pure fun _ => rfl)
  unfold plan_Least.f titheref23_Least.f
  by_cases h1 : p < 1
  · exact ⟨0, 0, some 2, 2, Evt.ifp h1 (bad true rfl).1, Evt.ifp h1 (bad true rfl).2, rfl, by simp, by simp⟩
  · by_cases h2 : p > 1048576
    · exact ⟨0, 0, some 2, 2, Evt.ifn h1 (bad _ (decide_eq_true h2)).1, Evt.ifn h1 (bad _ (decide_eq_true h2)).2, rfl, by simp, by simp⟩
    · obtain ⟨e, n, q1, q2, q3, q4, q5, q6⟩ := Fits_rel (l := l) (m := m) hl hm p p
      have go1 : ∀ r, Evt (fun k => if e.isNone = true then plan_Least.l0 k l m p 0 p else some (0, 0, some (e.getD 0))) r → Evt (fun k => if p < 1 then plan_Least.j0 k l m p true else plan_Least.j0 k l m p (decide (p > 1048576))) r := by
        intro r h
        refine Evt.ifn h1 (Evt.succ ?_)
        simp only [plan_Least.j0]
        exact Evt.ifn (by simpa using h2) (Evt.bind q1 h)
      have go2 : ∀ r, Evt (fun k => if n = 0 then titheref23_Least.l0 k l m p 0 p else some (0, 0, n)) r → Evt (fun k => if p < 1 then titheref23_Least.j0 k l m p true else titheref23_Least.j0 k l m p (decide (p > 1048576))) r := by
        intro r h
        refine Evt.ifn h1 (Evt.succ ?_)
        simp only [titheref23_Least.j0]
        exact Evt.ifn (by simpa using h2) (Evt.call q2 (Evt.bind q3 h))
      by_cases hn : n = 0
      · obtain rfl := q5.2 hn
        obtain ⟨Q, y1, y2, y3, y4⟩ := Least_loop hl hm (p := p) (by omega) p.toNat 0 p (by omega) (by omega) (by omega) (by omega)
        exact ⟨Q, p, none, 0, go1 _ (Evt.ifp rfl y1), go2 _ (Evt.ifp hn y2), rfl, by simp, fun _ => ⟨y3, y4, by show p ≤ 1048576; omega⟩⟩
      · refine ⟨0, 0, some (nm e), n, go1 _ (Evt.ifn (fun h => hn (q5.1 (Option.isNone_iff_eq_none.1 h))) (Evt.pure fun _ => rfl)), go2 _ (Evt.ifn hn (Evt.pure fun _ => rfl)), q4, by simp [hn], fun h => absurd h hn⟩
end Go.Proofs.YtelihhegkdjdoaaDoor.Pure
