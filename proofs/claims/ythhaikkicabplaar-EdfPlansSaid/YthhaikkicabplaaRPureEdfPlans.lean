/- Proved: the law EdfPlans over its printed function: edf.Plan and edf.Valid answer what the reference answers. No conditions. -/
import Derived.Test.YthhaikkicabplaaRDefEdfPlans
import Derived.Test.YthhaikkicabplaaREdfPlan
import Derived.Test.YthhaikkicabplaaREdfWorks
namespace Go.Proofs.YthhaikkicabplaaR.Pure
open Go Go.RowKit Tithe Go.Proofs.YthhaikkicabplaaR.X Go.Proofs.YthhaikkicabplaaRW.PrintWords Go.Proofs.YthhaikkicabplaaRW.PrintLast Go.Proofs.YthhaikkicabplaaRW.PrintMore

theorem rdI_set {c : List Int} {i : Nat} (v : Int) (hi : i < c.length) (j : Nat) : rd (c.set i v) (j : Int) = if i = j then v else rd c (j : Int) := by
  unfold rd
  rw [show ((j : Int)).toNat = j by omega]
  simp only [List.getD, List.getElem?_set]
  by_cases h : i = j
  · rw [if_pos h, if_pos h, if_pos hi]; rfl
  · rw [if_neg h, if_neg h]
theorem rd60_snoc {c : List S60} {v : S60} (j : Nat) (hj : j < c.length + 1) : rd_T60 (c ++ [v]) (j : Int) = if j = c.length then v else rd_T60 c (j : Int) := by
  rw [rd60 (by simp; omega), List.getElem_append]
  by_cases h : j = c.length
  · rw [dif_neg (by omega), if_pos h]; simp
  · rw [dif_pos (by omega), if_neg h, rd60 (by omega)]

set_option maxHeartbeats 4000000 in
theorem ref_loops (l : List S43) (hv : vLL l = 0) (n : Nat) (hn : n ≤ 4096) :
    ∀ (d t : Nat) (lf pl : List Int), t + d = n → lf.length = l.length →
      (∀ j, j < l.length → (It l).s j ≤ t → ¬ (t - (It l).s j) % (It l).p j = 0 → rd lf j = lfA (It l) (rd pl) t j) → Greedy (It l) pl t →
      ∃ p, Evt (fun k => titheref10_Plan.l0 k l n lf pl t) (p, 0) ∧ Greedy (It l) p n := by
  have hI := It_fine hv
  have hm : l.length ≤ 64 := hI.1
  intro d
  induction d with
  | zero =>
    intro t lf pl ht hlf _ hg
    obtain rfl : t = n := by omega
    refine ⟨pl, Evt.succ ?_, hg⟩
    simp only [titheref10_Plan.l0]
    exact Evt.ifn (by omega) (Evt.pure fun _ => rfl)
  | succ d ih =>
    intro t lf pl ht hlf hb hg
    have hplen : pl.length = t := hg.1
    have inner : ∀ (e i : Nat) (lf : List Int) (c : List S60), i + e = l.length → lf.length = l.length → c.length = i →
        (∀ j, j < i → (It l).s j ≤ t → rd lf j = lfA (It l) (rd pl) t j) →
        (∀ j, j < i → (rd_T60 c j).f0 = j ∧ (rd_T60 c j).f1 = lfA (It l) (rd pl) t j ∧ (0 < lfA (It l) (rd pl) t j → (rd_T60 c j).f2 = enA (It l) t j)) →
        (∀ j, i ≤ j → j < l.length → (It l).s j ≤ t → ¬ (t - (It l).s j) % (It l).p j = 0 → rd lf j = lfA (It l) (rd pl) t j) →
        ∃ p, Evt (fun k => titheref10_Plan.l1 k l n lf pl t c i) (p, 0) ∧ Greedy (It l) p n := by
      intro e
      induction e with
      | zero =>
        intro i lf c hi hlf hc hL hC _
        obtain rfl : i = l.length := by omega
        obtain ⟨r, hr, hp⟩ := refPick_evt c (by omega)
        rw [hc] at hp
        have hp' : PickIs (It l).m (fun j => (j : Int)) (lfA (It l) (rd pl) t) (enA (It l) t) r :=
          hp.congr (fun j hj => ⟨(hC j hj).1, (hC j hj).2.1, fun h => (hC j hj).2.2 (by have := (hC j hj).2.1; have h' : 0 < (rd_T60 c j).f1 := h; omega)⟩)
        have hg' := hg.snoc hI hp'
        have hnext : ∀ lf', lf'.length = l.length → (∀ j, j < l.length → rd lf' j = rd lf j - (if r = j then 1 else 0)) →
            ∀ j, j < l.length → (It l).s j ≤ ((t + 1 : Nat) : Int) → ¬ (((t + 1 : Nat) : Int) - (It l).s j) % (It l).p j = 0 → rd lf' j = lfA (It l) (rd (pl ++ [r])) ((t + 1 : Nat) : Int) j := by
          intro lf' _ hlf' j hj hs hmod
          rw [show ((t + 1 : Nat) : Int) = (t : Int) + 1 by omega] at hs hmod ⊢
          have hjm : j < (It l).m := hj
          have hlc : lfA (It l) (rd (pl ++ [r])) t j = lfA (It l) (rd pl) t j := lfA_congr hI hjm (fun u hu hut => rd_append_lt hu (by omega))
          have hrt : rd (pl ++ [r]) (t : Int) = r := by have := rd_append_eq (pl := pl) (r := r); rwa [hplen] at this
          obtain ⟨n1, _⟩ := A_next hI (pl := rd (pl ++ [r])) (t := t) hjm (fun h => hmod h.2)
          have hst : (It l).s j ≤ t := by
            by_cases h' : (It l).s j ≤ t
            · exact h'
            · exfalso; apply hmod; rw [show (t : Int) + 1 - (It l).s j = 0 by omega]; simp
          rw [n1, hlc, hrt, if_neg (by omega), hlf' j hj, hL j hj hst]
        have hrange := hp.range
        by_cases hr0 : 0 ≤ r
        · obtain ⟨r', rfl⟩ : ∃ r' : Nat, r = r' := ⟨r.toNat, by omega⟩
          have hrl : r' < l.length := by omega
          have hlf1 : 0 < rd lf r' ∧ rd lf r' ≤ 1048576 := by
            rcases hp' with ⟨h', _⟩ | ⟨j', hj', e', hl', _⟩
            · omega
            · obtain rfl : r' = j' := by omega
              have hs : (It l).s r' ≤ t := by
                by_cases h' : (It l).s r' ≤ t
                · exact h'
                · unfold lfA at hl'; rw [if_pos (by omega)] at hl'; omega
              have := hL r' hrl hs
              have := lfA_le hI (pl := rd pl) (t := t) (j := r') hrl
              have := (hI.2 r' hrl)
              omega
          have e2 : Hd (wrap64 (rd lf r' - 1) = rd lf r' - 1) := ⟨w64 (by omega) (by omega)⟩
          obtain ⟨p, hp2, hg2⟩ := ih (t + 1) (lf.set r' (wrap64 (rd lf r' - 1))) (pl ++ [(r' : Int)]) (by omega) (by simp [hlf])
            (hnext _ (by simp [hlf]) (fun j hj => by
              rw [rdI_set _ (by omega), e2.out]
              by_cases h : r' = j
              · subst h; simp
              · rw [if_neg h, if_neg (by omega)]; omega)) hg'
          refine ⟨p, Evt.succ ?_, hg2⟩
          simp only [titheref10_Plan.l1]
          rw [w1 t (by omega)]
          refine Evt.ifn (by omega) (Evt.bind hr (Evt.ifp (by omega) (Evt.ifp (by omega) (Evt.ifp (by omega) (Evt.ifp (by omega) ?_)))))
          rw [show ((r' : Int)).toNat = r' by omega]
          exact hp2
        · obtain ⟨p, hp2, hg2⟩ := ih (t + 1) lf (pl ++ [r]) (by omega) hlf (hnext lf hlf (fun j hj => by rw [if_neg (by omega)]; omega)) hg'
          refine ⟨p, Evt.succ ?_, hg2⟩
          simp only [titheref10_Plan.l1]
          rw [w1 t (by omega)]
          exact Evt.ifn (by omega) (Evt.bind hr (Evt.ifn (by omega) (Evt.ifp (by omega) hp2)))
      | succ e ihe =>
        intro i lf c hi hlf hc hL hC hB
        have hil : i < l.length := by omega
        have him : i < (It l).m := hil
        have hIi := hI.2 i him
        have hx : rd_T43 l (i : Int) = ⟨(It l).q i, (It l).p i, (It l).s i⟩ := rfl
        have grow : ∀ v : S60, (v.f0 = i ∧ v.f1 = lfA (It l) (rd pl) t i ∧ (0 < lfA (It l) (rd pl) t i → v.f2 = enA (It l) t i)) →
            ∀ j, j < i + 1 → (rd_T60 (c ++ [v]) j).f0 = j ∧ (rd_T60 (c ++ [v]) j).f1 = lfA (It l) (rd pl) t j ∧ (0 < lfA (It l) (rd pl) t j → (rd_T60 (c ++ [v]) j).f2 = enA (It l) t j) := by
          intro v hvv j hj
          rw [rd60_snoc j (by omega)]
          by_cases h : j = c.length
          · rw [if_pos h]
            obtain rfl : j = i := by omega
            exact hvv
          · rw [if_neg h]; exact hC j (by omega)
        by_cases hs : (t : Int) < (It l).s i
        · obtain ⟨p, hp, hg2⟩ := ihe (i + 1) lf (c ++ [⟨i, 0, 0⟩]) (by omega) hlf (by simp [hc])
            (fun j hj hsj => by
              by_cases h : j = i
              · subst h; omega
              · exact hL j (by omega) hsj)
            (grow _ ⟨rfl, by unfold lfA; rw [if_pos hs], fun h => by unfold lfA at h; rw [if_pos hs] at h; omega⟩)
            (fun j hj hjl => hB j (by omega) hjl)
          refine ⟨p, Evt.succ ?_, hg2⟩
          simp only [titheref10_Plan.l1]
          rw [w1 i (by omega)]
          exact Evt.ifp (by omega) (Evt.ifp (by omega) (Evt.ifp hs (Evt.ifp (by omega) hp)))
        · have e2 : Hd (wrap64 ((t : Int) - (It l).s i) = t - (It l).s i) := ⟨w64 (by omega) (by omega)⟩
          have hmod0 := Int.emod_nonneg (t - (It l).s i) (b := (It l).p i) (by omega)
          have hmod1 := Int.emod_lt_of_pos (t - (It l).s i) (b := (It l).p i) (by omega)
          have e3 : Hd (wrap64 ((t : Int) - (t - (It l).s i) % (It l).p i) = t - (t - (It l).s i) % (It l).p i) := ⟨w64 (by omega) (by omega)⟩
          have e4 : Hd (wrap64 ((t : Int) - (t - (It l).s i) % (It l).p i + (It l).p i) = t - (t - (It l).s i) % (It l).p i + (It l).p i) := ⟨w64 (by omega) (by omega)⟩
          have hen : enA (It l) t i = t - (t - (It l).s i) % (It l).p i + (It l).p i := by unfold enA Items.en bg; rw [if_neg hs]
          by_cases hz : (t - (It l).s i) % (It l).p i = 0
          · have hnew := A_new (I := It l) (pl := rd pl) (t := t) (j := i) (by omega) hz
            obtain ⟨p, hp, hg2⟩ := ihe (i + 1) (lf.set i ((It l).q i)) (c ++ [⟨i, rd (lf.set i ((It l).q i)) i, t - (t - (It l).s i) % (It l).p i + (It l).p i⟩]) (by omega) (by simp [hlf]) (by simp [hc])
              (fun j hj hsj => by
                rw [rdI_set _ (by omega)]
                by_cases h : i = j
                · subst h; rw [if_pos rfl]; exact hnew.1.symm
                · rw [if_neg h]; exact hL j (by omega) hsj)
              (grow _ ⟨rfl, by rw [rdI_set _ (by omega), if_pos rfl]; exact hnew.1.symm, fun _ => hen.symm⟩)
              (fun j hj hjl hsj hmj => by rw [rdI_set _ (by omega), if_neg (by omega)]; exact hB j (by omega) hjl hsj hmj)
            refine ⟨p, Evt.succ ?_, hg2⟩
            simp only [titheref10_Plan.l1, Option.bind_some]
            rw [w1 i (by omega), hx]
            simp only []
            rw [e2.out, tmod_pos (by omega), e3.out, e4.out, show ((i : Int)).toNat = i by omega]
            exact Evt.ifp (by omega) (Evt.ifp (by omega) (Evt.ifn hs (Evt.ifn (by omega) (Evt.ifp hz (Evt.ifp (by omega) (Evt.ifp (by omega) hp))))))
          · obtain ⟨p, hp, hg2⟩ := ihe (i + 1) lf (c ++ [⟨i, rd lf i, t - (t - (It l).s i) % (It l).p i + (It l).p i⟩]) (by omega) hlf (by simp [hc])
              (fun j hj hsj => by
                by_cases h : j = i
                · subst h; exact hB j (by omega) hil hsj hz
                · exact hL j (by omega) hsj)
              (grow _ ⟨rfl, hB i (by omega) hil (by omega) hz, fun _ => hen.symm⟩)
              (fun j hj hjl => hB j (by omega) hjl)
            refine ⟨p, Evt.succ ?_, hg2⟩
            simp only [titheref10_Plan.l1]
            rw [w1 i (by omega), hx]
            simp only []
            rw [e2.out, tmod_pos (by omega), e3.out, e4.out]
            exact Evt.ifp (by omega) (Evt.ifp (by omega) (Evt.ifn hs (Evt.ifn (by omega) (Evt.ifn hz (Evt.ifp (by omega) (Evt.ifp (by omega) hp))))))
    obtain ⟨p, hp, hg2⟩ := inner l.length 0 lf [] (by omega) hlf rfl (fun j hj => by omega) (fun j hj => by omega) (fun j _ hj hs hm => hb j hj hs hm)
    refine ⟨p, Evt.succ ?_, hg2⟩
    simp only [titheref10_Plan.l0]
    exact Evt.ifp (by omega) hp

set_option maxHeartbeats 1000000 in
theorem refPlan_evt (l : List S43) (hl : l.length ≤ 140737488351232) (n : Int) : ∃ p e, Evt (fun k => titheref10_Plan.f k l n) (p, e) ∧ PlanIs l n p e := by
  have bad : ∀ b, b = true → Evt (fun k => titheref10_Plan.j0 k l n b) ([], 1) := by
    intro b hb; refine Evt.succ ?_; simp only [titheref10_Plan.j0]; exact Evt.ifp hb (Evt.pure fun _ => rfl)
  unfold titheref10_Plan.f
  by_cases h1 : n < 0
  · exact ⟨[], 1, Evt.ifp h1 (bad _ rfl), .inl ⟨.inl h1, rfl, rfl⟩⟩
  · by_cases h2 : n > 4096
    · exact ⟨[], 1, Evt.ifn h1 (bad _ (decide_eq_true h2)), .inl ⟨.inr h2, rfl, rfl⟩⟩
    · have hV := ref_Valid_evt l hl
      by_cases hv : vLL l = 0
      · obtain ⟨n', rfl⟩ : ∃ n' : Nat, n = n' := ⟨n.toNat, by omega⟩
        have hm : l.length ≤ 64 := (It_fine hv).1
        obtain ⟨p, hp, hg⟩ := ref_loops l hv n' (by omega) n' 0 (List.replicate l.length 0) [] (by omega) (by simp) (fun j hj hs hmod => by
          have := (It_fine hv).2 j hj
          exfalso; apply hmod
          rw [show ((0 : Nat) : Int) - (It l).s j = 0 by omega]; simp) ⟨rfl, fun t ht => by omega⟩
        refine ⟨p, 0, Evt.ifn h1 (Evt.succ ?_), .inr (.inr ⟨by omega, hv, rfl, hg⟩)⟩
        simp only [titheref10_Plan.j0]
        rw [hv] at hV
        exact Evt.ifn (by simpa using h2) (Evt.bind hV (Evt.ifp rfl (Evt.ifp (by omega) (Evt.ifp (by omega) hp))))
      · refine ⟨[], vLL l, Evt.ifn h1 (Evt.succ ?_), .inr (.inl ⟨by omega, hv, rfl, rfl⟩)⟩
        simp only [titheref10_Plan.j0]
        exact Evt.ifn (by simpa using h2) (Evt.bind hV (Evt.ifn hv (Evt.pure fun _ => rfl)))

theorem PlanIs.length {l : List S43} {n : Int} {p : List Int} {e : Int} (h : PlanIs l n p e) : p.length ≤ 4096 := by
  rcases h with ⟨_, rfl, _⟩ | ⟨_, _, rfl, _⟩ | ⟨_, _, _, h⟩
  · simp
  · simp
  · rw [h.1]; omega

theorem EdfPlans : tithelaw10_EdfPlans.Pure := by
  intro l n _ hl _ _
  refine Evt.ex ?_
  have hll : l.length ≤ 140737488351232 := by omega
  obtain ⟨p, e, hp, hpe⟩ := Plan_evt l hll n
  obtain ⟨q, f, hq, hqf⟩ := refPlan_evt l hll n
  obtain ⟨rfl, rfl⟩ := hpe.uniq hqf
  have hlen := hpe.length
  unfold tithelaw10_EdfPlans.f
  refine Evt.bind (items_evt l hl) (Evt.bind hp (Evt.bind hq (Evt.bind (same_true p (by omega)) (Evt.ifp rfl (Evt.call (num_opt e) (Evt.ifp rfl ?_))))))
  exact Evt.bind (items_evt l hl) (Evt.bind (edf_Valid_evt l hll) (Evt.call (num_opt _) (Evt.bind (ref_Valid_evt l hll) (Evt.ifp rfl (Evt.bind works_evt (Evt.pure fun _ => rfl))))))
end Go.Proofs.YthhaikkicabplaaR.Pure
