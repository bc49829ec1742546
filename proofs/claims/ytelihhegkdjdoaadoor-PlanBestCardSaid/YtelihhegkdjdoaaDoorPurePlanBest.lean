/- Proved here: PlanBest answers true at all work, every row of reservations and all periods. No conditions. -/
import Derived.Test.YtelihhegkdjdoaaDoorDefPlanBest
import Derived.Test.YtelihhegkdjdoaaDoorPlanDoor
import Derived.Test.YtelihhegkdjdoaaDoorLx14
import Derived.Test.YtelihhegkdjdoaaDoorLx15
namespace Go.Proofs.YtelihhegkdjdoaaDoor.Pure
open Go Go.RowKit Tithe Go.Proofs.YtelihhegkdjdoaaDoor.L Go.Proofs.YtelihhegkdjdoaaDoorW.PrintWords Go.Proofs.YtelihhegkdjdoaaDoorW.PrintLast Go.Proofs.YtelihhegkdjdoaaDoorW.PrintMore
/-- a reservation's share -/
def units (q p : Int) : Int := (q * 1048576 + p - 1) / p
theorem units_le {q p : Int} (h : okr (q, p)) : 0 ≤ units q p ∧ units q p ≤ 1048576 := by
  obtain ⟨a, b, c⟩ := h
  simp only [] at a b c
  unfold units
  refine ⟨Int.ediv_nonneg (by omega) (by omega), ?_⟩
  have := Int.ediv_lt_of_lt_mul (a := q * 1048576 + p - 1) (b := 1048577) (c := p) (by omega) (by omega)
  omega
theorem units_w {q p : Int} (h : okr (q, p)) : wrap64 (Int.tdiv (wrap64 (wrap64 (wrap64 (q * 1048576) + p) - 1)) p) = units q p := by
  have hu := units_le h
  obtain ⟨a, b, c⟩ := h
  simp only [] at a b c
  unfold units at *
  rw [w64 (n := q * 1048576) (by omega) (by omega), w64 (n := q * 1048576 + p) (by omega) (by omega), w64 (n := q * 1048576 + p - 1) (by omega) (by omega), tdiv_pos (by omega), w64 (by omega) (by omega)]
theorem Share_ok {q p : Int} (h : okr (q, p)) : fixed_Share.f q p = some (units q p, none) := by
  have hw := units_w h
  obtain ⟨a, b, c⟩ := h
  simp only [] at a b c
  unfold fixed_Share.f
  rw [valid_ok a b c, ← hw]
  simp only [Option.bind_some, Option.isNone_none, if_true]
  rw [if_neg (by omega)]
theorem Units_ok {q p : Int} (h : okr (q, p)) : titheref01_Units.f q p = some (units q p) := by
  have hw := units_w h
  obtain ⟨a, b, c⟩ := h
  simp only [] at a b c
  unfold titheref01_Units.f
  rw [if_neg (by omega), hw]

theorem Best_go {l : List S52} {m : List S25} (hl : l.length ≤ 4398046511104) (hm : m.length ≤ 8796093021952) {L : List Int} (hL : L.length ≤ 64) :
    ∀ (d i : Nat) (sh bq bp : Int), i + d = L.length → (bq = 0 ∧ bp = 0 ∧ sh = 2097152 ∨ okr (bq, bp) ∧ sh = units bq bp) →
      ∃ q p e n, Evt (fun k => plan_Best.l0 k l m sh L (L.length : Int) i bq bp) (q, p, e) ∧ Evt (fun k => titheref23_Best.l0 k l m L i bq bp) (q, p, n) ∧ nm e = n := by
  intro d
  induction d with
  | zero =>
    intro i sh bq bp hi hb
    rcases hb with ⟨rfl, rfl, rfl⟩ | ⟨hr, rfl⟩
    · refine ⟨0, 0, some 220, 220, Evt.succ ?_, Evt.succ ?_, rfl⟩
      · simp only [plan_Best.l0]; exact Evt.ifn (by omega) (Evt.ifp (by omega) (Evt.pure fun _ => rfl))
      · simp only [titheref23_Best.l0]; exact Evt.ifn (by omega) (Evt.ifp (by simp) (Evt.pure fun _ => rfl))
    · have hu := units_le hr
      obtain ⟨a, b, c⟩ := hr
      simp only [] at a b c
      refine ⟨bq, bp, none, 0, Evt.succ ?_, Evt.succ ?_, rfl⟩
      · simp only [plan_Best.l0]; exact Evt.ifn (by omega) (Evt.ifn (by omega) (Evt.pure fun _ => rfl))
      · simp only [titheref23_Best.l0]; exact Evt.ifn (by omega) (Evt.ifn (by omega) (Evt.pure fun _ => rfl))
  | succ d ih =>
    intro i sh bq bp hi hb
    have hrd : rd L (i : Int) = L[i] := by simp [rd, List.getD, List.getElem?_eq_getElem (show i < L.length by omega)]
    obtain ⟨Q, P, e, n, q1, q2, q3, q4, q5⟩ := Least_rel (l := l) (m := m) hl hm L[i]
    have go1 : ∀ r, Evt (fun k => (errors_Is.f e (some 220)).bind fun t => if t = true then plan_Best.l0 k l m sh L (L.length : Int) ((i + 1 : Nat) : Int) bq bp else if e.isNone = true then (fixed_Share.f Q P).bind fun bt => if bt.1 < sh then plan_Best.l0 k l m bt.1 L (L.length : Int) ((i + 1 : Nat) : Int) Q P else plan_Best.l0 k l m sh L (L.length : Int) ((i + 1 : Nat) : Int) bq bp else some (0, 0, some (e.getD 0))) r → Evt (fun k => plan_Best.l0 k l m sh L (L.length : Int) i bq bp) r := by
      intro r h
      refine Evt.succ ?_
      simp only [plan_Best.l0]
      rw [hrd, w1 i (by omega)]
      exact Evt.ifp (by omega) (Evt.ifp (by omega) (Evt.ifp (by omega) (Evt.bind q1 h)))
    have go2 : ∀ r, Evt (fun k => if n = 0 then titheref23_Best.j1 k l m L i n false bq bp Q P else titheref23_Best.j1 k l m L i n (n != 220) bq bp Q P) r → Evt (fun k => titheref23_Best.l0 k l m L i bq bp) r := by
      intro r h
      refine Evt.succ ?_
      simp only [titheref23_Best.l0]
      rw [hrd]
      exact Evt.ifp (by omega) (Evt.ifp (by omega) (Evt.bind q2 h))
    have is220 : errors_Is.f e (some 220) = some (decide (e = some 220)) := by unfold errors_Is.f; rw [if_pos rfl]
    by_cases hn : n = 0
    · obtain rfl := q4.2 hn
      have hr := q5 hn
      have hu := units_le hr
      have hne : decide ((none : Option Int) = some 220) = false := by simp
      -- the document's next state
      have ref : ∀ r, Evt (fun k => if bq = 0 then titheref23_Best.l0 k l m L ((i + 1 : Nat) : Int) Q P else (titheref01_Units.f Q P).bind fun t => (titheref01_Units.f bq bp).bind fun t2 => if t < t2 then titheref23_Best.l0 k l m L ((i + 1 : Nat) : Int) Q P else titheref23_Best.l0 k l m L ((i + 1 : Nat) : Int) bq bp) r → Evt (fun k => titheref23_Best.j1 k l m L i n false bq bp Q P) r := by
        intro r h
        refine Evt.succ ?_
        simp only [titheref23_Best.j1]
        rw [w1 i (by omega)]
        exact Evt.ifn (by simp) (Evt.ifp hn h)
      rcases hb with ⟨rfl, rfl, rfl⟩ | ⟨hbr, rfl⟩
      · obtain ⟨q, p, e', n', y1, y2, y3⟩ := ih (i + 1) (units Q P) Q P (by omega) (.inr ⟨hr, rfl⟩)
        refine ⟨q, p, e', n', go1 _ (Evt.call is220 (Evt.ifn (by simp) (Evt.ifp rfl (Evt.call (Share_ok hr) (Evt.ifp (by show units Q P < 2097152; omega) y1))))), go2 _ (Evt.ifp hn (ref _ (Evt.ifp rfl y2))), y3⟩
      · have hb0 : bq ≠ 0 := by obtain ⟨a, _, _⟩ := hbr; simp only [] at a; omega
        by_cases hlt : units Q P < units bq bp
        · obtain ⟨q, p, e', n', y1, y2, y3⟩ := ih (i + 1) (units Q P) Q P (by omega) (.inr ⟨hr, rfl⟩)
          exact ⟨q, p, e', n', go1 _ (Evt.call is220 (Evt.ifn (by simp) (Evt.ifp rfl (Evt.call (Share_ok hr) (Evt.ifp hlt y1))))), go2 _ (Evt.ifp hn (ref _ (Evt.ifn hb0 (Evt.call (Units_ok hr) (Evt.call (Units_ok hbr) (Evt.ifp hlt y2)))))), y3⟩
        · obtain ⟨q, p, e', n', y1, y2, y3⟩ := ih (i + 1) (units bq bp) bq bp (by omega) (.inr ⟨hbr, rfl⟩)
          exact ⟨q, p, e', n', go1 _ (Evt.call is220 (Evt.ifn (by simp) (Evt.ifp rfl (Evt.call (Share_ok hr) (Evt.ifn hlt y1))))), go2 _ (Evt.ifp hn (ref _ (Evt.ifn hb0 (Evt.call (Units_ok hr) (Evt.call (Units_ok hbr) (Evt.ifn hlt y2)))))), y3⟩
    · have hen : e ≠ none := fun h => hn (q4.1 h)
      obtain ⟨c, rfl⟩ := Option.ne_none_iff_exists'.1 hen
      obtain rfl : c = n := q3
      by_cases hc : c = 220
      · subst hc
        obtain ⟨q, p, e', n', y1, y2, y3⟩ := ih (i + 1) sh bq bp (by omega) hb
        refine ⟨q, p, e', n', go1 _ (Evt.call is220 (Evt.ifp (by simp) y1)), go2 _ (Evt.ifn hn (Evt.succ ?_)), y3⟩
        simp only [titheref23_Best.j1]
        rw [w1 i (by omega)]
        exact Evt.ifn (by simp) (Evt.ifn hn y2)
      · refine ⟨0, 0, some c, c, go1 _ (Evt.call is220 (Evt.ifn (by simpa using hc) (Evt.ifn (by simp) (Evt.pure fun _ => rfl)))), go2 _ (Evt.ifn hn (Evt.succ ?_)), rfl⟩
        simp only [titheref23_Best.j1]
        exact Evt.ifp (by simpa using hc) (Evt.pure fun _ => rfl)
theorem PlanBest : tithelaw23_PlanBest.Pure := by
  intro l m L _ hl1 _ _ hm1 _ _ _ _
  refine Evt.ex ?_
  have main : ∃ q p e n, Evt (fun k => plan_Best.f k l m L) (q, p, e) ∧ Evt (fun k => titheref23_Best.f k l m L) (q, p, n) ∧ nm e = n := by
    unfold plan_Best.f titheref23_Best.f
    by_cases h0 : (L.length : Int) = 0
    · exact ⟨0, 0, some 1, 1, Evt.ifp h0 (Evt.pure fun _ => rfl), Evt.ifp h0 (Evt.pure fun _ => rfl), rfl⟩
    · by_cases h1 : (L.length : Int) > 64
      · exact ⟨0, 0, some 3, 3, Evt.ifn h0 (Evt.ifp h1 (Evt.pure fun _ => rfl)), Evt.ifn h0 (Evt.ifp h1 (Evt.pure fun _ => rfl)), rfl⟩
      · obtain ⟨q, p, e, n, y1, y2, y3⟩ := Best_go (l := l) (m := m) (by omega) (by omega) (L := L) (by omega) L.length 0 2097152 0 0 (by omega) (.inl ⟨rfl, rfl, rfl⟩)
        exact ⟨q, p, e, n, Evt.ifn h0 (Evt.ifn h1 y1), Evt.ifn h0 (Evt.ifn h1 y2), y3⟩
  obtain ⟨q, p, e, n, q1, q2, q3⟩ := main
  unfold tithelaw23_PlanBest.f
  exact Evt.bind q1 (Evt.bind q2 (Evt.ifp (by simp) (Evt.call (num23 e) (Evt.ifp q3 (Evt.bind sure23_evt (Evt.pure fun _ => rfl))))))
end Go.Proofs.YtelihhegkdjdoaaDoor.Pure
