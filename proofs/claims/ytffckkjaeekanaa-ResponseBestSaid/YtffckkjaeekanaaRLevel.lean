/- What an entry's level asks for, when the processor is idle first: the program's answers and the counting ones are one. No conditions. -/
import Derived.Test.YtffckkjaeekanaaROrd
import Derived.Test.YtffckkjaeekanaaBx3
import Derived.Test.YtffckkjaeekanaaBx5
import Derived.Test.YtffckkjaeekanaaBx13
namespace Go.Proofs.Ytffckkjaeekanaa.Pure
open Go Go.RowKit Tithe Go.Proofs.Ytffckkjaeekanaa.B Go.Proofs.YtffckkjaeekanaaW.PrintWords Go.Proofs.YtffckkjaeekanaaW.PrintLast Go.Proofs.YtffckkjaeekanaaW.PrintMore

/-- what all entries of a list can ask for -/
def rs (L : List S39) (t : Int) : Int := (L.map fun x => rq x t).sum
theorem rs_cons (x : S39) (L : List S39) (t : Int) : rs (x :: L) t = rq x t + rs L t := by simp only [rs, List.map_cons, List.sum_cons]
theorem rs_nil (t : Int) : rs [] t = 0 := rfl
theorem rs_append (L M : List S39) (t : Int) : rs (L ++ M) t = rs L t + rs M t := by simp only [rs, List.map_append, List.sum_append]
theorem ahl_ok {l : List S39} (hok : ∀ x ∈ l, okp x) {i : Nat} : ∀ x ∈ ahl l i, okp x := by
  intro x hx
  obtain ⟨j, hj, rfl⟩ := List.mem_map.1 hx
  have hm := ol_mem.1 ((List.takeWhile_sublist _).subset hj)
  rw [rd_get hm]; exact hok _ (List.getElem_mem hm)
theorem ahl_len {l : List S39} {i : Nat} (hi : i < l.length) : (ahl l i).length < l.length := by
  obtain ⟨A, B, h, _, _, hn⟩ := ol_split hi
  have := ol_length l
  unfold ahl
  rw [h, take_split hn, List.length_map]
  rw [h, List.length_append, List.length_cons] at this; omega
theorem rs_bounds {L : List S39} (hok : ∀ x ∈ L, okp x) {t : Int} (h0 : 0 ≤ t) (h1 : t ≤ 2147483648) : 0 ≤ rs L t ∧ rs L t ≤ L.length * 2251799813685248 := by
  induction L with
  | nil => simp [rs_nil]
  | cons x L ih =>
    have hx := rq_bounds (hok x (List.mem_cons_self ..)) h0 h1
    have := ih (fun y hy => hok y (List.mem_cons_of_mem _ hy))
    rw [rs_cons, List.length_cons]; omega

theorem place_evt {l : List S39} (hl : l.length ≤ 4398046511104) (i : Int) : Evt (fun k => demand_place.f k l i) (if vcode l = 0 then (if 0 ≤ i ∧ i < l.length then none else some 1) else some (vcode l)) := by
  unfold demand_place.f
  refine Evt.bind (Valid_evt l hl) ?_
  by_cases hv : vcode l = 0
  · rw [if_pos hv]
    unfold verr
    rw [if_pos hv, w64 (n := (l.length : Int) - 1) (by omega) (by omega)]
    refine Evt.ifp rfl (Evt.call (is_eq _ _ _) ?_)
    by_cases hi : 0 ≤ i ∧ i < l.length
    · rw [if_pos hi, decide_eq_true (by omega)]; exact Evt.ifp rfl (Evt.pure fun _ => rfl)
    · rw [if_neg hi, decide_eq_false (by omega)]; exact Evt.ifn (by simp) (Evt.pure fun _ => rfl)
  · rw [if_neg hv]
    unfold verr
    rw [if_neg hv]
    exact Evt.ifn (by simp) (Evt.pure fun _ => rfl)

/-- the sum over the places, from one on -/
theorem ref_sum {l : List S39} (hok : ∀ x ∈ l, okp x) (h8 : l.length ≤ 8) {i : Nat} (hi : i < l.length) {t : Int} (h0 : 0 ≤ t) (h1 : t ≤ 2147483648) {β : Type} (g : Nat → Int → Int → Option β) (r : β)
    (step : ∀ k (acc : Int) (kk : Nat), kk < l.length → g (k + 1) acc kk = if (kk : Int) = (i : Int) then g k acc (wrap64 ((kk : Int) + 1)) else if ab l kk i = true then g k (wrap64 (acc + rq (rd_T39 l (kk : Int)) t)) (wrap64 ((kk : Int) + 1)) else g k acc (wrap64 ((kk : Int) + 1))) :
    ∀ (d kk : Nat) (acc : Int), kk + d = l.length → 0 ≤ acc → acc ≤ (kk + 1) * 2251799813685248 →
      Evt (fun k => g k (acc + ((((List.range l.length).drop kk).filter fun k => ab l k i).map fun k : Nat => rq (rd_T39 l (k : Int)) t).sum) (l.length : Int)) r → Evt (fun k => g k acc (kk : Int)) r := by
  intro d
  induction d with
  | zero =>
    intro kk acc hk a0 a1 h
    rw [List.drop_of_length_le (by rw [List.length_range]; omega)] at h
    simp only [List.filter_nil, List.map_nil, List.sum_nil, Int.add_zero] at h
    obtain rfl : kk = l.length := by omega
    exact h
  | succ d ih =>
    intro kk acc hk a0 a1 h
    have hx := rq_bounds (hok _ (List.getElem_mem (show kk < l.length by omega))) h0 h1
    rw [← rd_get (by omega)] at hx
    rw [List.drop_eq_getElem_cons (show kk < (List.range l.length).length by rw [List.length_range]; omega), List.getElem_range] at h
    refine Evt.succ (Evt.congr ?_ (fun k => step k acc kk (by omega)))
    rw [w1 kk (by omega)]
    by_cases he : kk = i
    · subst he
      rw [List.filter_cons_of_neg (by rw [ab_irr]; simp)] at h
      exact Evt.ifp rfl (ih (kk + 1) acc (by omega) a0 (by omega) h)
    · refine Evt.ifn (by omega) ?_
      cases hab : ab l kk i with
      | true =>
        rw [List.filter_cons_of_pos (p := fun k => ab l k i) (by exact hab), List.map_cons, List.sum_cons, ← Int.add_assoc] at h
        rw [w64 (n := acc + rq (rd_T39 l (kk : Int)) t) (by omega) (by omega)]
        exact Evt.ifp rfl (ih (kk + 1) _ (by omega) (by omega) (by omega) h)
      | false =>
        rw [List.filter_cons_of_neg (p := fun k => ab l k i) (by rw [hab]; simp)] at h
        exact Evt.ifn (by simp) (ih (kk + 1) acc (by omega) a0 (by omega) h)

theorem Level_evt {l : List S39} (hl : l.length ≤ 4398046511104) (i t : Int) : ∃ v e n, Evt (fun k => demand_Level.f k l i t) (v, e) ∧ Evt (fun k => titheref20_Level.f k l i t) (v, n) ∧ nm e = n := by
  have hp := place_evt hl i
  have hr := refValid_evt l hl
  by_cases hv : vcode l = 0
  · obtain ⟨h8, hok⟩ := vcode_ok.1 hv
    rw [if_pos hv] at hp
    rw [hv] at hr
    by_cases hi : 0 ≤ i ∧ i < l.length
    · rw [if_pos hi] at hp
      obtain ⟨j, rfl⟩ : ∃ j : Nat, i = j := ⟨i.toNat, by omega⟩
      have hj : j < l.length := by omega
      by_cases ht : 0 ≤ t ∧ t ≤ 1073741824
      · have hx := hok _ (List.getElem_mem hj)
        have hx' := hx
        obtain ⟨_, _, c1, c2, _⟩ := hx'
        rw [← rd_get hj] at c1 c2
        refine ⟨(rd_T39 l (j : Int)).f1 + rs (ahl l j) t, none, 0, ?_, ?_, rfl⟩
        · unfold demand_Level.f
          refine Evt.bind hp (Evt.ifp rfl (Evt.call (is_eq t 0 1073741824) ?_))
          rw [decide_eq_true ht]
          refine Evt.ifp rfl (Evt.ifp (by omega) (Evt.ifp (by omega) (Evt.bind (ahead_evt h8 j) ?_)))
          have hLok := ahl_ok hok (i := j)
          have hLl := ahl_len hj
          generalize ahl l j = L at *
          have key : ∀ (d p : Nat) (acc : Int), p + d = L.length → 0 ≤ acc → acc ≤ (p + 1) * 2251799813685248 → Evt (fun k => demand_Level.l0 k t acc L (L.length : Int) p) (acc + rs (L.drop p) t, none) := by
            intro d
            induction d with
            | zero =>
              intro p acc hp a0 a1
              refine Evt.succ (Evt.pure fun k => ?_)
              simp only [demand_Level.l0]
              rw [if_neg (by omega), List.drop_of_length_le (by omega), rs_nil, Int.add_zero]
            | succ d ih =>
              intro p acc hp a0 a1
              have hy := hLok _ (List.getElem_mem (show p < L.length by omega))
              have hb := rq_bounds hy ht.1 (by omega)
              refine Evt.succ ?_
              simp only [demand_Level.l0]
              rw [w1 p (by omega)]
              refine Evt.ifp (by omega) (Evt.ifp (by omega) (Evt.ifp (by omega) (Evt.call (a := rq L[p] t) ?_ ?_)))
              · rw [rd_get (by omega)]; exact requests_ok hy ht.1 (by omega)
              · rw [w64 (n := acc + rq L[p] t) (by omega) (by omega), List.drop_eq_getElem_cons (by omega), rs_cons, ← Int.add_assoc]
                exact ih (p + 1) _ (by omega) (by omega) (by omega)
          exact key L.length 0 _ (by omega) (by omega) (by omega)
        · unfold titheref20_Level.f
          refine Evt.bind hr (Evt.ifp rfl (Evt.ifn (by omega) (Evt.ifn (by omega) (Evt.call (time_eq t) ?_))))
          rw [decide_eq_true ht]
          refine Evt.ifp rfl (Evt.ifp (by omega) (Evt.ifp (by omega) ?_))
          refine ref_sum hok h8 hj ht.1 (by omega) (fun k acc kk => titheref20_Level.l0 k l (j : Int) t acc kk) _ ?_ l.length 0 _ (by omega) (by omega) (by omega) ?_
          · intro k acc kk hk
            simp only [titheref20_Level.l0]
            rw [if_pos (by omega), Ahead_ok hk hj, rd_get hk, ref_requests_ok (hok _ (List.getElem_mem hk)) ht.1 (by omega)]
            simp only [Option.bind_some]
            rw [if_pos (show (0 : Int) ≤ (kk : Int) by omega)]
          · rw [List.drop_zero, ← ahl_sum hj (fun x => rq x t)]
            refine Evt.succ (Evt.pure fun k => ?_)
            simp only [titheref20_Level.l0]
            rw [if_neg (by omega)]; rfl
      · refine ⟨0, some 1, 1, ?_, ?_, rfl⟩
        · unfold demand_Level.f
          refine Evt.bind hp (Evt.ifp rfl (Evt.call (is_eq t 0 1073741824) ?_))
          rw [decide_eq_false ht]
          exact Evt.ifn (by simp) (Evt.pure fun _ => rfl)
        · unfold titheref20_Level.f
          refine Evt.bind hr (Evt.ifp rfl (Evt.ifn (by omega) (Evt.ifn (by omega) (Evt.call (time_eq t) ?_))))
          rw [decide_eq_false ht]
          exact Evt.ifn (by simp) (Evt.pure fun _ => rfl)
    · rw [if_neg hi] at hp
      refine ⟨0, some 1, 1, ?_, ?_, rfl⟩
      · unfold demand_Level.f
        exact Evt.bind hp (Evt.ifn (by simp) (Evt.pure fun _ => rfl))
      · unfold titheref20_Level.f
        refine Evt.bind hr (Evt.ifp rfl ?_)
        by_cases h0 : i < 0
        · exact Evt.ifp h0 (Evt.pure fun _ => rfl)
        · exact Evt.ifn h0 (Evt.ifp (by omega) (Evt.pure fun _ => rfl))
  · rw [if_neg hv] at hp
    refine ⟨0, some (vcode l), vcode l, ?_, ?_, rfl⟩
    · unfold demand_Level.f
      exact Evt.bind hp (Evt.ifn (by simp) (Evt.pure fun _ => rfl))
    · unfold titheref20_Level.f
      exact Evt.bind hr (Evt.ifn hv (Evt.pure fun _ => rfl))

end Go.Proofs.Ytffckkjaeekanaa.Pure
