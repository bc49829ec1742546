/- Proved here: ResponseBest answers true at all work and every row of reservations. No conditions. -/
import Derived.Test.YtffckkjaeekanaaDefResponseBest
import Derived.Test.YtffckkjaeekanaaBestW
import Derived.Test.YtffckkjaeekanaaBstC
set_option linter.unusedVariables false
namespace Go.Proofs.Ytffckkjaeekanaa.Pure
open Go Go.RowKit Tithe Go.Proofs.Ytffckkjaeekanaa.B Go.Proofs.YtffckkjaeekanaaW.PrintWords Go.Proofs.YtffckkjaeekanaaW.PrintLast Go.Proofs.YtffckkjaeekanaaW.PrintMore
theorem works22 : tithelaw22_works.f 60 = some true := by decide +kernel
theorem works22_evt : Evt (fun k => tithelaw22_works.f k) true := Evt.of_mono (fun k => tithelaw22_works.mono k) works22
theorem twin22 (l : List S39) (h : l.length < 4398046511104) : tithelaw22_twin.f l = some l := by
  unfold tithelaw22_twin.f
  rw [if_pos (by simpa using h)]; rfl
theorem row22 (l : List S48) (h : l.length < 8796093022208) : tithelaw22_row.f l = some l := by
  unfold tithelaw22_row.f
  rw [if_pos (by simpa using h)]; rfl
theorem num22 (e : Option Int) : tithelaw22_num.f e = some (nm e) := by
  unfold tithelaw22_num.f nm
  cases e <;> rfl
theorem Deadline_evt {l : List S39} {m : List S48} (h : fc l m = 0) : Evt (fun k => demand_Deadline.f k l) (outA l (rkN l l.length), none) := by
  obtain ⟨h8, hok⟩ := fc_ok h
  have hv := Valid_evt l (by omega)
  have e : verr l = none := by unfold verr; rw [if_pos (vcode_ok.2 ⟨h8, hok⟩)]
  rw [e] at hv
  unfold demand_Deadline.f
  exact Evt.bind hv (Evt.ifn (by simp) (Evt.ifp h8 (Evt.pure fun _ => rfl)))
theorem rk_range {l : List S39} (h8 : l.length ≤ 8) : ∀ k, k < l.length → 0 ≤ rkN l l.length k ∧ rkN l l.length k ≤ 31 := fun k hk => by have := (rk_bij l).r k hk; omega
theorem okA_good {l : List S39} {m : List S48} {ps : Nat → Int} (h : Good l m ps) : okA l (outA l ps) = true := by
  unfold okA
  refine List.all_eq_true.2 fun i hi => ?_
  have hi := List.mem_range.1 hi
  rw [outA_rd hi]
  simp only [Bool.and_eq_true, decide_eq_true_eq, List.all_eq_true, List.mem_range]
  refine ⟨⟨⟨⟨⟨(h.1.r i hi).1, (h.1.r i hi).2⟩, rfl⟩, rfl⟩, rfl⟩, fun j hj => ?_⟩
  rw [outA_rd (by omega)]
  exact h.1.inj j i (by omega) hi (by omega)
theorem tail_err {l : List S39} {m : List S48} (c : Int) : Evt (fun k => tithelaw22_ResponseBest.j0 k l m [] (some c) true) true := by
  refine Evt.succ ?_
  simp only [tithelaw22_ResponseBest.j0]
  exact Evt.ifp (by first | rfl | trivial) (Evt.ifn (by simp) (Evt.ifp rfl (Evt.bind works22_evt (Evt.pure fun _ => rfl))))
theorem tail_none {l : List S39} {m : List S48} (h : fc l m = 0) (hn : ∀ ps, ¬ Good l m ps) : Evt (fun k => tithelaw22_ResponseBest.j0 k l m [] (some 220) false) true := by
  obtain ⟨h8, hok⟩ := fc_ok h
  obtain ⟨hm8, _⟩ := fc_row h
  obtain ⟨b, x, y, q1, q2⟩ := perm_top h
  have hb : b = false := by
    cases b with
    | false => rfl
    | true => obtain ⟨ps, hg⟩ := q2.1 rfl; exact absurd hg (hn ps)
  subst hb
  obtain ⟨b', p1, p2⟩ := Fits_ok (fc_outA h (rk_range h8))
  have hb' : b' = false := by
    cases b' with
    | false => rfl
    | true =>
      have := p2.1 rfl
      rw [outA_len'] at this
      exact absurd ⟨rk_bij l, this⟩ (hn _)
  subst hb'
  refine Evt.succ ?_
  simp only [tithelaw22_ResponseBest.j0, Int.toNat_natCast]
  refine Evt.ifn (by simp) (Evt.call (twin22 l (by omega)) (Evt.ifp (by omega) (Evt.ifp (by omega) (Evt.bind q1 (Evt.ifn (by simp) (Evt.ifn (by simp) (Evt.call (twin22 l (by omega)) (Evt.bind (Deadline_evt h) (Evt.ifn (by simp) (Evt.ifp rfl (Evt.ifp rfl (Evt.call (row22 m (by omega)) (Evt.bind p1 (Evt.call (num22 _) (Evt.ifp rfl (Evt.bind works22_evt (Evt.pure fun _ => rfl)))))))))))))))))
theorem tail_some {l : List S39} {m : List S48} (h : fc l m = 0) {ps : Nat → Int} (hg : Good l m ps) : Evt (fun k => tithelaw22_ResponseBest.j0 k l m (outA l ps) none false) true := by
  obtain ⟨h8, hok⟩ := fc_ok h
  obtain ⟨hm8, _⟩ := fc_row h
  obtain ⟨b, x, y, q1, q2⟩ := perm_top h
  have hb : b = true := q2.2 ⟨ps, hg⟩
  subst hb
  obtain ⟨b', p1, p2⟩ := Fits_ok (fc_outA h (rk_range h8))
  have hb' : b' = true := p2.2 (by rw [outA_len']; exact (due_good hok (F_of_good hg)).2)
  subst hb'
  obtain ⟨n, r1, r2⟩ := RefFits_ok (fc_outA h (ps := ps) (fun k hk => by have := hg.1.r k hk; omega))
  have hn : n = 0 := r2.2 (by rw [outA_len']; exact hg.2)
  subst hn
  refine Evt.succ ?_
  simp only [tithelaw22_ResponseBest.j0, Int.toNat_natCast]
  refine Evt.ifn (by simp) (Evt.call (twin22 l (by omega)) (Evt.ifp (by omega) (Evt.ifp (by omega) (Evt.bind q1 (Evt.ifp rfl (Evt.ifn (by simp) (Evt.call (twin22 l (by omega)) (Evt.bind (Deadline_evt h) (Evt.ifp rfl (Evt.ifp (by rw [outA_len']) (Evt.ifp (okA_good hg) (Evt.bind r1 (Evt.ifp rfl (Evt.ifp rfl (Evt.call (row22 m (by omega)) (Evt.bind p1 (Evt.ifp rfl (Evt.bind works22_evt (Evt.pure fun _ => rfl)))))))))))))))))))
theorem rcode_small (m : List S48) : rcode m 0 ≠ 220 := by
  unfold rcode
  split
  · omega
  · split
    · split <;> omega
    · omega
theorem ResponseBest : tithelaw22_ResponseBest.Pure := by
  intro l m _ hl1 _ _ hm1 _
  refine Evt.ex ?_
  unfold tithelaw22_ResponseBest.f
  by_cases h5 : (l.length : Int) > 5
  · exact Evt.ifp h5 (Evt.bind works22_evt (Evt.pure fun _ => rfl))
  · refine Evt.ifn h5 (Evt.call (twin22 l (by omega)) (Evt.call (row22 m (by omega)) ?_))
    have hv := refValid_evt l (by omega)
    have hc := check_evt (l := l) (m := m) (by omega) (by omega)
    by_cases hf : fc l m = 0
    · obtain ⟨h8, hok⟩ := fc_ok hf
      obtain ⟨hm8, hm⟩ := fc_row hf
      rw [if_pos hf] at hc
      have hv0 : vcode l = 0 := vcode_ok.2 ⟨h8, hok⟩
      rw [hv0] at hv
      obtain ⟨r, y1, y2, y3⟩ := best_none h8 hok hm8 hm
      cases r with
      | none =>
        have hA : Evt (fun k => response_Audsley.f k l m) ([], some 220) := by
          unfold response_Audsley.f; exact Evt.bind hc (Evt.ifn (by simp) (Evt.ifp h8 (Evt.bind y1 (Evt.pure fun _ => rfl))))
        refine Evt.bind hA (Evt.bind hv (Evt.ifp rfl (Evt.call (num22 _) (Evt.ifn (by simp [nm]) (Evt.call (num22 _) ?_)))))
        rw [show (nm (some 220) != 220) = false from rfl]
        exact tail_none hf (y2 rfl)
      | some b =>
        have hA : Evt (fun k => response_Audsley.f k l m) (outA l b.ps, none) := by
          unfold response_Audsley.f; exact Evt.bind hc (Evt.ifn (by simp) (Evt.ifp h8 (Evt.bind y1 (Evt.pure fun _ => rfl))))
        exact Evt.bind hA (Evt.bind hv (Evt.ifp rfl (Evt.call (num22 _) (Evt.ifp rfl (tail_some hf (y3 b rfl))))))
    · rw [if_neg hf] at hc
      have hA : Evt (fun k => response_Audsley.f k l m) ([], some (fc l m)) := by
        unfold response_Audsley.f; exact Evt.bind hc (Evt.ifp rfl (Evt.pure fun _ => rfl))
      refine Evt.bind hA (Evt.bind hv ?_)
      by_cases hv0 : vcode l = 0
      · have he : fc l m = rcode m 0 := by unfold fc; rw [if_pos hv0]
        have h2 : fc l m ≠ 220 := by rw [he]; exact rcode_small m
        refine Evt.ifp hv0 (Evt.call (num22 _) (Evt.ifn (by simpa [nm] using hf) (Evt.call (num22 _) ?_)))
        rw [show (nm (some (fc l m)) != 220) = true by simp [nm, h2]]
        exact tail_err _
      · exact Evt.ifn hv0 (tail_err _)
end Go.Proofs.Ytffckkjaeekanaa.Pure
