/- Proved here: PlanShares answers true at all parts and all periods. No conditions. -/
import Derived.Test.YtelihhegkdjdoaaDoorDefPlanShares
import Derived.Test.YtelihhegkdjdoaaDoorPlanDoor
import Derived.Test.YtelihhegkdjdoaaDoorMx10
import Derived.Test.YtelihhegkdjdoaaDoorMx16
namespace Go.Proofs.YtelihhegkdjdoaaDoor.Pure
open Go Go.RowKit Tithe Go.Proofs.YtelihhegkdjdoaaDoor.M Go.Proofs.YtelihhegkdjdoaaDoorW.PrintWords Go.Proofs.YtelihhegkdjdoaaDoorW.PrintLast Go.Proofs.YtelihhegkdjdoaaDoorW.PrintMore
/-- a reservation's share -/
def units (q p : Int) : Int := (q * 1048576 + p - 1) / p
theorem units_le {q p : Int} (h : okr (q, p)) : 0 ≤ units q p ∧ units q p ≤ 1048576 := by
  obtain ⟨a, b, c⟩ := h
  simp only [] at a b c
  unfold units
  refine ⟨Int.ediv_nonneg (by omega) (by omega), ?_⟩
  have := Int.ediv_lt_of_lt_mul (a := q * 1048576 + p - 1) (b := 1048577) (c := p) (by omega) (by omega)
  omega
theorem units_w {q p : Int} (h : okr (q, p)) : wrap64 (Int.tdiv (wrap64 (wrap64 (wrap64 (q * 1048576) + p) - 1)) p) = units q p := by
  have hu := units_le h
  obtain ⟨a, b, c⟩ := h
  simp only [] at a b c
  unfold units at *
  rw [w64 (n := q * 1048576) (by omega) (by omega), w64 (n := q * 1048576 + p) (by omega) (by omega), w64 (n := q * 1048576 + p - 1) (by omega) (by omega), tdiv_pos (by omega), w64 (by omega) (by omega)]
theorem Share_ok {q p : Int} (h : okr (q, p)) : fixed_Share.f q p = some (units q p, none) := by
  have hw := units_w h
  obtain ⟨a, b, c⟩ := h
  simp only [] at a b c
  unfold fixed_Share.f
  rw [valid_ok a b c, ← hw]
  simp only [Option.bind_some, Option.isNone_none, if_true]
  rw [if_neg (by omega)]
theorem Units_ok {q p : Int} (h : okr (q, p)) : titheref01_Units.f q p = some (units q p) := by
  have hw := units_w h
  obtain ⟨a, b, c⟩ := h
  simp only [] at a b c
  unfold titheref01_Units.f
  rw [if_neg (by omega), hw]

theorem sum_b : ∀ (us : List Int), (∀ u ∈ us, 0 ≤ u ∧ u ≤ 1048576) → 0 ≤ us.sum ∧ us.sum ≤ us.length * 1048576
  | [], _ => by simp
  | u :: r, h => by
    have a := h u (List.mem_cons_self ..)
    have b := sum_b r (fun x hx => h x (List.mem_cons_of_mem _ hx))
    simp only [List.sum_cons, List.length_cons]; omega
theorem rd_i {us : List Int} {i : Nat} (h : i < us.length) : rd us (i : Int) = us[i] := by simp [rd, List.getD, List.getElem?_eq_getElem h]
theorem sum_take {us : List Int} {i : Nat} (h : i < us.length) : (us.take (i + 1)).sum = (us.take i).sum + us[i] := by
  rw [List.take_succ_eq_append_getElem h, List.sum_append]; simp
theorem Sum_evt {us : List Int} (h64 : us.length ≤ 64) (hb : ∀ u ∈ us, 0 ≤ u ∧ u ≤ 1048576) : Evt (fun k => fixed_Sum.f k us) (us.sum, none) := by
  have second : ∀ (d i : Nat), i + d = us.length → Evt (fun k => fixed_Sum.l1 k (us.take i).sum us (us.length : Int) i) (us.sum, none) := by
    intro d
    induction d with
    | zero =>
      intro i hi
      refine Evt.succ (Evt.pure fun k => ?_)
      simp only [fixed_Sum.l1]
      rw [if_neg (by omega), List.take_of_length_le (by omega)]
    | succ d ih =>
      intro i hi
      have hu := hb _ (List.getElem_mem (show i < us.length by omega))
      have hs := sum_b (us.take i) (fun x hx => hb x (List.mem_of_mem_take hx))
      have hl : (us.take i).length ≤ 64 := by rw [List.length_take]; omega
      have := ih (i + 1) (by omega)
      rw [sum_take (by omega)] at this
      refine Evt.succ ?_
      simp only [fixed_Sum.l1]
      rw [w1 i (by omega), rd_i (by omega), w64 (n := 9223372036854775807 - (us.take i).sum) (by omega) (by omega), w64 (n := (us.take i).sum + us[i]) (by omega) (by omega)]
      exact Evt.ifp (by omega) (Evt.ifp (by omega) (Evt.ifp (by omega) (Evt.ifn (by omega) this)))
  have first : ∀ (d i : Nat), i + d = us.length → Evt (fun k => fixed_Sum.l0 k us us (us.length : Int) i) (us.sum, none) := by
    intro d
    induction d with
    | zero =>
      intro i hi
      refine Evt.succ ?_
      simp only [fixed_Sum.l0]
      have := second us.length 0 (by omega)
      exact Evt.ifn (by omega) (by simpa using this)
    | succ d ih =>
      intro i hi
      have hu := hb _ (List.getElem_mem (show i < us.length by omega))
      refine Evt.succ ?_
      simp only [fixed_Sum.l0]
      rw [w1 i (by omega), rd_i (by omega)]
      exact Evt.ifp (by omega) (Evt.ifp (by omega) (Evt.ifp (by omega) (Evt.ifn (by omega) (ih (i + 1) (by omega)))))
  exact first us.length 0 (by omega)
theorem FFits_evt {us : List Int} (h64 : us.length ≤ 64) (hb : ∀ u ∈ us, 0 ≤ u ∧ u ≤ 1048576) : Evt (fun k => fixed_Fits.f k us 0) (decide (us.sum ≤ 1048576), none) := by
  unfold fixed_Fits.f
  exact Evt.ifn (by omega) (Evt.bind (Sum_evt h64 hb) (Evt.ifn (by simp) (Evt.ifp rfl (Evt.ifp (by omega) (Evt.pure fun _ => by rw [w64 (n := 1048576 - 0) (by omega) (by omega)]; rfl)))))
theorem rd_part {l : List (List S52)} {i : Nat} (h : i < l.length) : rd_L3 l (i : Int) = l[i] := by
  simp [rd_L3, List.getD, List.getElem?_eq_getElem h]

theorem Share_rel {parts : List (List S52)} {L : List Int} (hp : ∀ x ∈ parts, x.length ≤ 9223372036854775807) :
    ∃ R e n, Evt (fun k => plan_Share.f k parts L) (R, e) ∧ Evt (fun k => titheref23_Share.f k parts L) (R, n) ∧ nm e = n ∧ R.length ≤ 64 := by
  unfold plan_Share.f titheref23_Share.f
  by_cases h0 : (parts.length : Int) = (L.length : Int)
  · by_cases h1 : (parts.length : Int) > 64
    · exact ⟨[], some 3, 3, Evt.ifp h0 (Evt.ifp h1 (Evt.pure fun _ => rfl)), Evt.ifp h0 (Evt.ifp h1 (Evt.pure fun _ => rfl)), rfl, by simp⟩
    · have key : ∀ (d i : Nat) (R : List S25) (us : List Int), i + d = parts.length → R.length = i → us.length = i → (∀ u ∈ us, 0 ≤ u ∧ u ≤ 1048576) →
          ∃ R' e n, Evt (fun k => plan_Share.l0 k L R us parts (parts.length : Int) i) (R', e) ∧ Evt (fun k => titheref23_Share.l0 k parts L R us.sum i) (R', n) ∧ nm e = n ∧ R'.length ≤ 64 := by
        intro d
        induction d with
        | zero =>
          intro i R us hi hR hu hb
          have hf := FFits_evt (us := us) (by omega) hb
          by_cases hs : us.sum ≤ 1048576
          · rw [decide_eq_true hs] at hf
            refine ⟨R, none, 0, Evt.succ ?_, Evt.succ ?_, rfl, by omega⟩
            · simp only [plan_Share.l0]; exact Evt.ifn (by omega) (Evt.bind hf (Evt.ifp rfl (Evt.pure fun _ => rfl)))
            · simp only [titheref23_Share.l0]; exact Evt.ifn (by omega) (Evt.ifn (by omega) (Evt.pure fun _ => rfl))
          · rw [decide_eq_false hs] at hf
            refine ⟨[], some 80, 80, Evt.succ ?_, Evt.succ ?_, rfl, by simp⟩
            · simp only [plan_Share.l0]; exact Evt.ifn (by omega) (Evt.bind hf (Evt.ifn (by simp) (Evt.pure fun _ => rfl)))
            · simp only [titheref23_Share.l0]; exact Evt.ifn (by omega) (Evt.ifp (by omega) (Evt.pure fun _ => rfl))
        | succ d ih =>
          intro i R us hi hR hu hb
          have hrp := rd_part (l := parts) (i := i) (by omega)
          have hrl := rd_i (us := L) (i := i) (by omega)
          obtain ⟨Q, P, e, n, q1, q2, q3, q4, q5⟩ := Least_rel (l := parts[i]'(by omega)) (m := []) (hp _ (List.getElem_mem _)) (by simp) (L[i]'(by omega))
          by_cases hn : n = 0
          · obtain rfl := q4.2 hn
            have hr := q5 hn
            have hul := units_le hr
            have hsb := sum_b us hb
            obtain ⟨R', e', n', y1, y2, y3, y4⟩ := ih (i + 1) (R ++ [⟨Q, P⟩]) (us ++ [units Q P]) (by omega) (by simp; omega) (by simp; omega) (by
              intro u hx
              rcases List.mem_append.1 hx with h | h
              · exact hb u h
              · rw [List.mem_singleton.1 h]; exact hul)
            have e1 : (us ++ [units Q P]).sum = us.sum + units Q P := by rw [List.sum_append]; simp
            rw [e1] at y2
            refine ⟨R', e', n', Evt.succ ?_, Evt.succ ?_, y3, y4⟩
            · simp only [plan_Share.l0]
              rw [hrp, hrl, w1 i (by omega)]
              exact Evt.ifp (by omega) (Evt.ifp (by omega) (Evt.ifp (by omega) (Evt.ifp (by omega) (Evt.bind q1 (Evt.ifp rfl (Evt.call (Share_ok hr) (Evt.ifp (by omega) (Evt.ifp (by omega) y1))))))))
            · simp only [titheref23_Share.l0]
              rw [hrp, hrl, w1 i (by omega)]
              refine Evt.ifp (by omega) (Evt.ifp (by omega) (Evt.ifp (by omega) (Evt.bind q2 (Evt.ifp hn (Evt.call (Units_ok hr) (Evt.ifp (by omega) ?_))))))
              rw [w64 (n := us.sum + units Q P) (by omega) (by omega)]
              exact y2
          · have hen : e ≠ none := fun h => hn (q4.1 h)
            obtain ⟨c, rfl⟩ := Option.ne_none_iff_exists'.1 hen
            obtain rfl : c = n := q3
            refine ⟨[], some c, c, Evt.succ ?_, Evt.succ ?_, rfl, by simp⟩
            · simp only [plan_Share.l0]
              rw [hrp, hrl]
              exact Evt.ifp (by omega) (Evt.ifp (by omega) (Evt.ifp (by omega) (Evt.ifp (by omega) (Evt.bind q1 (Evt.ifn (by simp) (Evt.pure fun _ => rfl))))))
            · simp only [titheref23_Share.l0]
              rw [hrp, hrl]
              exact Evt.ifp (by omega) (Evt.ifp (by omega) (Evt.ifp (by omega) (Evt.bind q2 (Evt.ifn hn (Evt.pure fun _ => rfl)))))
      obtain ⟨R', e', n', y1, y2, y3, y4⟩ := key parts.length 0 [] [] (by omega) rfl rfl (by simp)
      exact ⟨R', e', n', Evt.ifp h0 (Evt.ifn h1 y1), Evt.ifp h0 (Evt.ifn h1 y2), y3, y4⟩
  · exact ⟨[], some 1, 1, Evt.ifn h0 (Evt.pure fun _ => rfl), Evt.ifn h0 (Evt.pure fun _ => rfl), rfl, by simp⟩
theorem same_evt {R : List S25} (h : R.length ≤ 64) : ∀ (d i : Nat), i + d = R.length → Evt (fun k => tithelaw23_PlanShares.l0 k R R i) true := by
  intro d
  induction d with
  | zero =>
    intro i hi
    refine Evt.succ ?_
    simp only [tithelaw23_PlanShares.l0]
    exact Evt.ifn (by omega) (Evt.bind sure23_evt (Evt.pure fun _ => rfl))
  | succ d ih =>
    intro i hi
    refine Evt.succ ?_
    simp only [tithelaw23_PlanShares.l0]
    rw [w1 i (by omega)]
    exact Evt.ifp (by omega) (Evt.ifp (by omega) (Evt.ifp (by omega) (Evt.ifn (by simp) (ih (i + 1) (by omega)))))
theorem PlanShares : tithelaw23_PlanShares.Pure := by
  intro parts L _ _ hx _ _ _
  refine Evt.ex ?_
  obtain ⟨R, e, n, q1, q2, q3, q4⟩ := Share_rel (parts := parts) (L := L) (fun x hm => by have h := (hx x hm).2; have e : maxLen = 9223372036854775807 := rfl; omega)
  unfold tithelaw23_PlanShares.f
  refine Evt.bind q1 (Evt.bind q2 (Evt.ifp rfl (Evt.call (num23 e) ?_)))
  rw [show (nm e != n) = false by rw [q3]; simp]
  refine Evt.succ ?_
  simp only [tithelaw23_PlanShares.j0]
  exact Evt.ifn (by simp) (same_evt q4 R.length 0 (by omega))
end Go.Proofs.YtelihhegkdjdoaaDoor.Pure
