/- Proved here: what the machine does at calls of the functions that the laws reach is what plain functions of the same names say, or a row of the given statement out of that. No conditions. Written by a program of this session over the printer of the kit. -/
import Derived.Test.YthhaikkicabplaaRXx0
namespace Go.Proofs.YthhaikkicabplaaR.X
open Go.RowKit Go.Proofs.YthhaikkicabplaaRW.PrintWords Go.Proofs.YthhaikkicabplaaRW.PrintLast Go.Proofs.YthhaikkicabplaaRW.PrintMore
attribute [local go_sem] max2_int min2_int max_two min_two max_three min_three max_four min_four   -- for this text's walks alone
set_option linter.unusedVariables false
set_option linter.unusedSimpArgs false

/-! ### edf_Item_within: function 44 -/
def edf_Item_within.f (a0_0 : Int) (a0_1 : Int) (a0_2 : Int) (a1 : Int) (a2 : Int) : Option (Int) := if a0_1 = 0 then (none) else (some (mx (wrap64 ((wrap64 ((mx (wrap64 (a2 - a0_2)) 0) / a0_1)) - (wrap64 (Int.tdiv (wrap64 ((wrap64 ((mx (wrap64 (a1 - a0_2)) 0) + a0_1)) - 1)) a0_1)))) 0))
set_option maxHeartbeats 8000000 in
set_option maxRecDepth 100000 in
theorem edf_Item_within.calls (a0_0 : Int) (a0_1 : Int) (a0_2 : Int) (a1 : Int) (a2 : Int) (r : Int) (w : World) (h : edf_Item_within.f a0_0 a0_1 a0_2 a1 a2 = some r) :
  Calls Try.prog 44 #[.agg #[.int .i64 a0_0, .int .i64 a0_1, .int .i64 a0_2], .int .i64 a1, .int .i64 a2] w fun e w' => e = .returned (.int .i64 r) ∧ Below w.heap.size w w' := by
 have hu55 := Try.underlying55
 have HB := Aside0.mk (Below.refl w.heap.size w)
 have H : (if a0_1 = 0 then (none) else (some (mx (wrap64 ((wrap64 ((mx (wrap64 (a2 - a0_2)) 0) / a0_1)) - (wrap64 (Int.tdiv (wrap64 ((wrap64 ((mx (wrap64 (a1 - a0_2)) 0) + a0_1)) - 1)) a0_1)))) 0))) = some r := h
 clear h
 obtain ⟨ji4, hji4⟩ : ∃ j_ : Int, (mx (wrap64 (a1 - a0_2)) 0) = j_ := ⟨_, rfl⟩
 replace H : (if a0_1 = 0 then (none) else (some (mx (wrap64 ((wrap64 ((mx (wrap64 (a2 - a0_2)) 0) / a0_1)) - (wrap64 (Int.tdiv (wrap64 ((wrap64 ((ji4) + a0_1)) - 1)) a0_1)))) 0))) = some r := by first | (rw [hji4] at H; exact H) | (simp only [hji4] at H ⊢; exact H)
 (try (have hji4l : 0 ≤ ji4 := by (rw [← hji4]; unfold mx; (repeat' split) <;> omega)))
 (try (have hji4m : 0 ≤ ji4 := by omega))
 have hji4_ : (if (wrap64 (a1 - a0_2)) < 0 then 0 else (wrap64 (a1 - a0_2))) = ji4 := hji4
 by_cases c5 : a0_1 = 0
 ·rw [if_pos c5] at H
  exact absurd H (by simp)
 ·rw [if_neg c5] at H
  have c5b0 : (a0_1 == 0) = false := beq_eq_false_iff_ne.mpr c5
  have c5b1 : (a0_1 != 0) = true := bne_iff_ne.mpr c5
  obtain ⟨ji6, hji6⟩ : ∃ j_ : Int, (mx (wrap64 (a2 - a0_2)) 0) = j_ := ⟨_, rfl⟩
  replace H : (some (mx (wrap64 ((wrap64 ((ji6) / a0_1)) - (wrap64 (Int.tdiv (wrap64 ((wrap64 ((ji4) + a0_1)) - 1)) a0_1)))) 0)) = some r := by first | (rw [hji6] at H; exact H) | (simp only [hji6] at H ⊢; exact H)
  (try (have hji6l : 0 ≤ ji6 := by (rw [← hji6]; unfold mx; (repeat' split) <;> omega)))
  (try (have hji6m : 0 ≤ ji6 := by omega))
  (try (have hji6d : ∀ z_ : Int, Int.tdiv ji6 z_ = ji6 / z_ := fun z_ => Int.tdiv_eq_ediv_of_nonneg hji6l))
  have hji6_ : (if (wrap64 (a2 - a0_2)) < 0 then 0 else (wrap64 (a2 - a0_2))) = ji6 := hji6
  obtain ⟨ji7, hji7⟩ : ∃ j_ : Int, (mx (wrap64 ((wrap64 ((ji6) / a0_1)) - (wrap64 (Int.tdiv (wrap64 ((wrap64 ((ji4) + a0_1)) - 1)) a0_1)))) 0) = j_ := ⟨_, rfl⟩
  replace H : (some ji7) = some r := by first | (rw [hji7] at H; exact H) | (simp only [hji7] at H ⊢; exact H)
  have hji7_ : (if (wrap64 ((wrap64 ((ji6) / a0_1)) - (wrap64 (Int.tdiv (wrap64 ((wrap64 ((ji4) + a0_1)) - 1)) a0_1)))) < 0 then 0 else (wrap64 ((wrap64 ((ji6) / a0_1)) - (wrap64 (Int.tdiv (wrap64 ((wrap64 ((ji4) + a0_1)) - 1)) a0_1))))) = ji7 := hji7
  obtain rfl := Option.some.inj H
  go_enter Try.func44, Try.ntmps44
  go_wp2_with (first | ((with_reducible refine gate_dst (N := 3) rfl ?_); refine box_event ?hg (N := 3) ?hd (cs := #[.int .i64 a0_0, .int .i64 a0_1, .int .i64 a0_2]) (t := 55) ?hr ?_; (case hd => rfl); (case hg => rfl); (case hr => first | (go_simp; done) | (go_simp; rfl)); intro gb179 hg w8 hbox hb; have n0_ := Aside0.mk (below_step (by repeat (first | (with_reducible first | exact HB.out | apply below_alloc | apply pw_below_drewN | apply below_drew1) | exact HB.out)) hb); have n1_ := Aside0.mk (hbox); have n2_ := Aside0.mk ((by rw [hg]; exact (below_size (by repeat (first | (with_reducible first | exact HB.out | apply below_alloc | apply pw_below_drewN | apply below_drew1) | exact HB.out))) : w.heap.size ≤ gb179)); have n3_ := Aside0.mk ((by rw [hg]; exact (below_size (by repeat (first | (with_reducible first | exact HB.out | apply below_alloc | apply pw_below_drewN | apply below_drew1) | exact HB.out))) : w.heap.size ≤ gb179)); clear HB; have HB := n0_; have BK179 := n1_; have GW179 := n2_; have GE179 := n3_; clear n0_ n1_ n2_ n3_; clear hb hbox hg; have hcz9_0 : w8.cell? ⟨gb179, 0, none⟩ = some (.int .i64 a0_0) := (blk_cell BK179.out 0).trans (by rfl); have hcz9_1 : w8.cell? ⟨gb179, 1, none⟩ = some (.int .i64 a0_1) := (blk_cell BK179.out 1).trans (by rfl); have hcz9_2 : w8.cell? ⟨gb179, 2, none⟩ = some (.int .i64 a0_2) := (blk_cell BK179.out 2).trans (by rfl); have hfz9_0 := blk_frozen BK179.out 0; have hfz9_1 := blk_frozen BK179.out 1; have hfz9_2 := blk_frozen BK179.out 2))
  go_ret
  exact ⟨by first | rfl | (simp [errW_none, errW_some] <;> rfl) | (simp only [← hji4, ← hji6, ← hji7]; first | rfl | (simp [errW_none, errW_some] <;> rfl)) | (simp [*, errW_none, errW_some] <;> rfl), by repeat (first | (with_reducible first | exact HB.out | apply below_alloc | apply pw_below_drewN | apply below_drew1 | refine below_set ?_ GE179.out) | exact HB.out)⟩

end Go.Proofs.YthhaikkicabplaaR.X
