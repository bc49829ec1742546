/- Proved here: what the machine does at calls of the functions that the laws reach is what plain functions of the same names say, or a row of the given statement out of that. No conditions. Written by a program of this session over the printer of the kit. -/
import Derived.Test.YthhaikkicabplaaRXx0
namespace Go.Proofs.YthhaikkicabplaaR.X
open Go.RowKit Go.Proofs.YthhaikkicabplaaRW.PrintWords Go.Proofs.YthhaikkicabplaaRW.PrintLast Go.Proofs.YthhaikkicabplaaRW.PrintMore
attribute [local go_sem] max2_int min2_int max_two min_two max_three min_three max_four min_four   -- for this text's walks alone
set_option linter.unusedVariables false
set_option linter.unusedSimpArgs false

/-! ### titheref10_within: function 37 -/
def titheref10_within.f (a0_0 : Int) (a0_1 : Int) (a0_2 : Int) (a1 : Int) (a2 : Int) : Option (Int) := if a1 > a0_2 then (if a0_1 = 0 then (none) else (some (wrap64 ((mx 0 (wrap64 (a2 - (wrap64 (a0_2 + (wrap64 ((wrap64 (Int.tdiv (wrap64 ((wrap64 ((wrap64 (a1 - a0_2)) + a0_1)) - 1)) a0_1)) * a0_1))))))) / a0_1)))) else (if a0_1 = 0 then (none) else (some (wrap64 ((mx 0 (wrap64 (a2 - (wrap64 (a0_2 + (wrap64 (0 * a0_1))))))) / a0_1))))
set_option maxHeartbeats 8000000 in
set_option maxRecDepth 100000 in
theorem titheref10_within.calls (a0_0 : Int) (a0_1 : Int) (a0_2 : Int) (a1 : Int) (a2 : Int) (r : Int) (w : World) (h : titheref10_within.f a0_0 a0_1 a0_2 a1 a2 = some r) :
  Calls Try.prog 37 #[.agg #[.int .i64 a0_0, .int .i64 a0_1, .int .i64 a0_2], .int .i64 a1, .int .i64 a2] w fun e w' => e = .returned (.int .i64 r) ∧ Below w.heap.size w w' := by
 have hu43 := Try.underlying43
 have HB := Aside0.mk (Below.refl w.heap.size w)
 have H : (if a1 > a0_2 then (if a0_1 = 0 then (none) else (some (wrap64 ((mx 0 (wrap64 (a2 - (wrap64 (a0_2 + (wrap64 ((wrap64 (Int.tdiv (wrap64 ((wrap64 ((wrap64 (a1 - a0_2)) + a0_1)) - 1)) a0_1)) * a0_1))))))) / a0_1)))) else (if a0_1 = 0 then (none) else (some (wrap64 ((mx 0 (wrap64 (a2 - (wrap64 (a0_2 + (wrap64 (0 * a0_1))))))) / a0_1))))) = some r := h
 clear h
 by_cases c4 : a1 > a0_2
 ·rw [if_pos c4] at H
  have c4b0 : decide (a0_2 < a1) = true := decide_eq_true c4
  clear c4
  by_cases c5 : a0_1 = 0
  ·rw [if_pos c5] at H
   exact absurd H (by simp)
  ·rw [if_neg c5] at H
   have c5b0 : (a0_1 == 0) = false := beq_eq_false_iff_ne.mpr c5
   have c5b1 : (a0_1 != 0) = true := bne_iff_ne.mpr c5
   obtain ⟨ji6, hji6⟩ : ∃ j_ : Int, (mx 0 (wrap64 (a2 - (wrap64 (a0_2 + (wrap64 ((wrap64 (Int.tdiv (wrap64 ((wrap64 ((wrap64 (a1 - a0_2)) + a0_1)) - 1)) a0_1)) * a0_1))))))) = j_ := ⟨_, rfl⟩
   replace H : (some (wrap64 ((ji6) / a0_1))) = some r := by first | (rw [hji6] at H; exact H) | (simp only [hji6] at H ⊢; exact H)
   (try (have hji6l : 0 ≤ ji6 := by (rw [← hji6]; unfold mx; (repeat' split) <;> omega)))
   (try (have hji6m : 0 ≤ ji6 := by omega))
   (try (have hji6d : ∀ z_ : Int, Int.tdiv ji6 z_ = ji6 / z_ := fun z_ => Int.tdiv_eq_ediv_of_nonneg hji6l))
   have hji6_ : (if 0 < (wrap64 (a2 - (wrap64 (a0_2 + (wrap64 ((wrap64 (Int.tdiv (wrap64 ((wrap64 ((wrap64 (a1 - a0_2)) + a0_1)) - 1)) a0_1)) * a0_1)))))) then (wrap64 (a2 - (wrap64 (a0_2 + (wrap64 ((wrap64 (Int.tdiv (wrap64 ((wrap64 ((wrap64 (a1 - a0_2)) + a0_1)) - 1)) a0_1)) * a0_1)))))) else 0) = ji6 := hji6
   obtain rfl := Option.some.inj H
   go_enter Try.func37, Try.ntmps37
   go_wp2_with (first | ((with_reducible refine gate_dst (N := 3) rfl ?_); refine box_event ?hg (N := 3) ?hd (cs := #[.int .i64 a0_0, .int .i64 a0_1, .int .i64 a0_2]) (t := 43) ?hr ?_; (case hd => rfl); (case hg => rfl); (case hr => first | (go_simp; done) | (go_simp; rfl)); intro gb320 hg w7 hbox hb; have n0_ := Aside0.mk (below_step (by repeat (first | (with_reducible first | exact HB.out | apply below_alloc | apply pw_below_drewN | apply below_drew1) | exact HB.out)) hb); have n1_ := Aside0.mk (hbox); have n2_ := Aside0.mk ((by rw [hg]; exact (below_size (by repeat (first | (with_reducible first | exact HB.out | apply below_alloc | apply pw_below_drewN | apply below_drew1) | exact HB.out))) : w.heap.size ≤ gb320)); have n3_ := Aside0.mk ((by rw [hg]; exact (below_size (by repeat (first | (with_reducible first | exact HB.out | apply below_alloc | apply pw_below_drewN | apply below_drew1) | exact HB.out))) : w.heap.size ≤ gb320)); clear HB; have HB := n0_; have BK320 := n1_; have GW320 := n2_; have GE320 := n3_; clear n0_ n1_ n2_ n3_; clear hb hbox hg; have hcz8_0 : w7.cell? ⟨gb320, 0, none⟩ = some (.int .i64 a0_0) := (blk_cell BK320.out 0).trans (by rfl); have hcz8_1 : w7.cell? ⟨gb320, 1, none⟩ = some (.int .i64 a0_1) := (blk_cell BK320.out 1).trans (by rfl); have hcz8_2 : w7.cell? ⟨gb320, 2, none⟩ = some (.int .i64 a0_2) := (blk_cell BK320.out 2).trans (by rfl); have hfz8_0 := blk_frozen BK320.out 0; have hfz8_1 := blk_frozen BK320.out 1; have hfz8_2 := blk_frozen BK320.out 2))
   go_ret
   exact ⟨by first | rfl | (simp [errW_none, errW_some] <;> rfl) | (simp only [← hji6]; first | rfl | (simp [errW_none, errW_some] <;> rfl)) | (simp [*, errW_none, errW_some] <;> rfl), by repeat (first | (with_reducible first | exact HB.out | apply below_alloc | apply pw_below_drewN | apply below_drew1 | refine below_set ?_ GE320.out) | exact HB.out)⟩
 ·rw [if_neg c4] at H
  have c4b0 : decide (a0_2 < a1) = false := decide_eq_false c4
  clear c4
  obtain ⟨ji9, hji9⟩ : ∃ j_ : Int, (mx 0 (wrap64 (a2 - (wrap64 (a0_2 + (wrap64 (0 * a0_1))))))) = j_ := ⟨_, rfl⟩
  (try rw [hji9] at BK320)
  (try rw [hji9] at BK320)
  (try rw [hji9] at BK320)
  (try rw [hji9] at BK320)
  (try rw [hji9] at BK320)
  (try rw [hji9] at BK320)
  (try rw [hji9] at BK320)
  replace H : (if a0_1 = 0 then (none) else (some (wrap64 ((ji9) / a0_1)))) = some r := by first | (rw [hji9] at H; exact H) | (simp only [hji9] at H ⊢; exact H)
  (try (have hji9l : 0 ≤ ji9 := by (rw [← hji9]; unfold mx; (repeat' split) <;> omega)))
  (try (have hji9m : 0 ≤ ji9 := by omega))
  (try (have hji9d : ∀ z_ : Int, Int.tdiv ji9 z_ = ji9 / z_ := fun z_ => Int.tdiv_eq_ediv_of_nonneg hji9l))
  have hji9_ : (if 0 < (wrap64 (a2 - (wrap64 (a0_2 + (wrap64 (0 * a0_1)))))) then (wrap64 (a2 - (wrap64 (a0_2 + (wrap64 (0 * a0_1)))))) else 0) = ji9 := hji9
  have hji9s : (if 0 < (wrap64 (a2 - (wrap64 (a0_2)))) then (wrap64 (a2 - (wrap64 (a0_2)))) else 0) = ji9 := by have h_ := hji9_; rw [show (wrap64 (0 * a0_1)) = 0 from by rw [Int.zero_mul]; unfold wrap64; omega, Int.add_zero] at h_; exact h_
  by_cases c10 : a0_1 = 0
  ·rw [if_pos c10] at H
   exact absurd H (by simp)
  ·rw [if_neg c10] at H
   have c10b0 : (a0_1 == 0) = false := beq_eq_false_iff_ne.mpr c10
   have c10b1 : (a0_1 != 0) = true := bne_iff_ne.mpr c10
   obtain rfl := Option.some.inj H
   go_enter Try.func37, Try.ntmps37
   go_wp2_with (first | ((with_reducible refine gate_dst (N := 3) rfl ?_); refine box_event ?hg (N := 3) ?hd (cs := #[.int .i64 a0_0, .int .i64 a0_1, .int .i64 a0_2]) (t := 43) ?hr ?_; (case hd => rfl); (case hg => rfl); (case hr => first | (go_simp; done) | (go_simp; rfl)); intro gb320 hg w11 hbox hb; have n0_ := Aside0.mk (below_step (by repeat (first | (with_reducible first | exact HB.out | apply below_alloc | apply pw_below_drewN | apply below_drew1) | exact HB.out)) hb); have n1_ := Aside0.mk (hbox); have n2_ := Aside0.mk ((by rw [hg]; exact (below_size (by repeat (first | (with_reducible first | exact HB.out | apply below_alloc | apply pw_below_drewN | apply below_drew1) | exact HB.out))) : w.heap.size ≤ gb320)); have n3_ := Aside0.mk ((by rw [hg]; exact (below_size (by repeat (first | (with_reducible first | exact HB.out | apply below_alloc | apply pw_below_drewN | apply below_drew1) | exact HB.out))) : w.heap.size ≤ gb320)); clear HB; have HB := n0_; have BK320 := n1_; have GW320 := n2_; have GE320 := n3_; clear n0_ n1_ n2_ n3_; clear hb hbox hg; have hcz12_0 : w11.cell? ⟨gb320, 0, none⟩ = some (.int .i64 a0_0) := (blk_cell BK320.out 0).trans (by rfl); have hcz12_1 : w11.cell? ⟨gb320, 1, none⟩ = some (.int .i64 a0_1) := (blk_cell BK320.out 1).trans (by rfl); have hcz12_2 : w11.cell? ⟨gb320, 2, none⟩ = some (.int .i64 a0_2) := (blk_cell BK320.out 2).trans (by rfl); have hfz12_0 := blk_frozen BK320.out 0; have hfz12_1 := blk_frozen BK320.out 1; have hfz12_2 := blk_frozen BK320.out 2))
   go_ret
   exact ⟨by first | rfl | (simp [errW_none, errW_some] <;> rfl) | (simp only [← hji9]; first | rfl | (simp [errW_none, errW_some] <;> rfl)) | (simp [*, errW_none, errW_some] <;> rfl), by repeat (first | (with_reducible first | exact HB.out | apply below_alloc | apply pw_below_drewN | apply below_drew1 | refine below_set ?_ GE320.out) | exact HB.out)⟩

end Go.Proofs.YthhaikkicabplaaR.X
