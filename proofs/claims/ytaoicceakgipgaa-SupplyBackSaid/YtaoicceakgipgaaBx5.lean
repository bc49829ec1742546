/- Proved here: what the machine does at calls of the functions that the laws reach is what plain functions of the same names say, or a row of the given statement out of that. No conditions. Written by a program of this session over the printer of the kit. -/
import Derived.Test.YtaoicceakgipgaaBx0
namespace Go.Proofs.Ytaoicceakgipgaa.B
open Go.RowKit Go.Proofs.YtaoicceakgipgaaW.PrintWords Go.Proofs.YtaoicceakgipgaaW.PrintLast Go.Proofs.YtaoicceakgipgaaW.PrintMore
attribute [local go_sem] max2_int min2_int max_two min_two max_three min_three max_four min_four   -- for this text's walks alone
set_option linter.unusedVariables false
set_option linter.unusedSimpArgs false

/-! ### supply_wait: function 20 -/
def supply_wait.f (a0_0 : Int) (a0_1 : Int) (a1 : Int) : Option (Int × Option Int) := if a1 = 0 then (some (0, none)) else (if a0_0 = 0 then (none) else (if (wrap64 ((wrap64 ((wrap64 ((wrap64 (2 * (wrap64 (a0_1 - a0_0)))) + (wrap64 ((wrap64 (Int.tdiv (wrap64 (a1 - 1)) a0_0)) * a0_1)))) + a1)) - (wrap64 ((wrap64 (Int.tdiv (wrap64 (a1 - 1)) a0_0)) * a0_0)))) ≤ 1073741824 then (some (wrap64 ((wrap64 ((wrap64 ((wrap64 (2 * (wrap64 (a0_1 - a0_0)))) + (wrap64 ((wrap64 (Int.tdiv (wrap64 (a1 - 1)) a0_0)) * a0_1)))) + a1)) - (wrap64 ((wrap64 (Int.tdiv (wrap64 (a1 - 1)) a0_0)) * a0_0))), none)) else (some (0, some 60))))
set_option maxHeartbeats 8000000 in
set_option maxRecDepth 100000 in
theorem supply_wait.calls (a0_0 : Int) (a0_1 : Int) (a1 : Int) (r1 : Int) (r2 : Option Int) (w : World) (h : supply_wait.f a0_0 a0_1 a1 = some (r1, r2)) :
  Calls Try.prog 20 #[.agg #[.int .i64 a0_0, .int .i64 a0_1], .int .i64 a1] w fun e w' => e = .returned (.tuple #[.int .i64 r1, errW r2]) ∧ Below w.heap.size w w' := by
 have hu24 := Try.underlying24
 have hu27 := Try.underlying27
 have hu47 := Try.underlying47
 have HB := Aside0.mk (Below.refl w.heap.size w)
 have H : (if a1 = 0 then (some (0, none)) else (if a0_0 = 0 then (none) else (if (wrap64 ((wrap64 ((wrap64 ((wrap64 (2 * (wrap64 (a0_1 - a0_0)))) + (wrap64 ((wrap64 (Int.tdiv (wrap64 (a1 - 1)) a0_0)) * a0_1)))) + a1)) - (wrap64 ((wrap64 (Int.tdiv (wrap64 (a1 - 1)) a0_0)) * a0_0)))) ≤ 1073741824 then (some (wrap64 ((wrap64 ((wrap64 ((wrap64 (2 * (wrap64 (a0_1 - a0_0)))) + (wrap64 ((wrap64 (Int.tdiv (wrap64 (a1 - 1)) a0_0)) * a0_1)))) + a1)) - (wrap64 ((wrap64 (Int.tdiv (wrap64 (a1 - 1)) a0_0)) * a0_0))), none)) else (some (0, some 60))))) = some (r1, r2) := h
 clear h
 by_cases c3 : a1 = 0
 ·rw [if_pos c3] at H
  have c3b0 : (a1 == 0) = true := beq_iff_eq.mpr c3
  have c3b1 : (a1 != 0) = false := bne_eq_false_iff_eq.mpr c3
  clear c3
  simp only [Option.some.injEq, Prod.mk.injEq] at H
  obtain ⟨rfl, rfl⟩ := H
  go_enter Try.func20, Try.ntmps20
  go_wp2_with (first | ((with_reducible refine gate_dst (N := 2) rfl ?_); refine box_event ?hg (N := 2) ?hd (cs := #[.int .i64 a0_0, .int .i64 a0_1]) (t := 24) ?hr ?_; (case hd => rfl); (case hg => rfl); (case hr => first | (go_simp; done) | (go_simp; rfl)); intro gb108 hg w4 hbox hb; have n0_ := Aside0.mk (below_step (by repeat (first | (with_reducible first | exact HB.out | apply below_alloc | apply pw_below_drewN | apply below_drew1) | exact HB.out)) hb); have n1_ := Aside0.mk (hbox); have n2_ := Aside0.mk ((by rw [hg]; exact (below_size (by repeat (first | (with_reducible first | exact HB.out | apply below_alloc | apply pw_below_drewN | apply below_drew1) | exact HB.out))) : w.heap.size ≤ gb108)); have n3_ := Aside0.mk ((by rw [hg]; exact (below_size (by repeat (first | (with_reducible first | exact HB.out | apply below_alloc | apply pw_below_drewN | apply below_drew1) | exact HB.out))) : w.heap.size ≤ gb108)); clear HB; have HB := n0_; have BK108 := n1_; have GW108 := n2_; have GE108 := n3_; clear n0_ n1_ n2_ n3_; clear hb hbox hg))
  go_ret2
  exact ⟨by first | rfl | (simp [errW_none, errW_some] <;> rfl) | (simp [*, errW_none, errW_some] <;> rfl), by repeat (first | (with_reducible first | exact HB.out | apply below_alloc | apply pw_below_drewN | apply below_drew1 | refine below_set ?_ GE108.out) | exact HB.out)⟩
 ·rw [if_neg c3] at H
  have c3b0 : (a1 == 0) = false := beq_eq_false_iff_ne.mpr c3
  have c3b1 : (a1 != 0) = true := bne_iff_ne.mpr c3
  by_cases c5 : a0_0 = 0
  ·rw [if_pos c5] at H
   exact absurd H (by simp)
  ·rw [if_neg c5] at H
   have c5b0 : (a0_0 == 0) = false := beq_eq_false_iff_ne.mpr c5
   have c5b1 : (a0_0 != 0) = true := bne_iff_ne.mpr c5
   by_cases c6 : (wrap64 ((wrap64 ((wrap64 ((wrap64 (2 * (wrap64 (a0_1 - a0_0)))) + (wrap64 ((wrap64 (Int.tdiv (wrap64 (a1 - 1)) a0_0)) * a0_1)))) + a1)) - (wrap64 ((wrap64 (Int.tdiv (wrap64 (a1 - 1)) a0_0)) * a0_0)))) ≤ 1073741824
   ·rw [if_pos c6] at H
    have c6b0 : decide ((wrap64 ((wrap64 ((wrap64 ((wrap64 (2 * (wrap64 (a0_1 - a0_0)))) + (wrap64 ((wrap64 (Int.tdiv (wrap64 (a1 - 1)) a0_0)) * a0_1)))) + a1)) - (wrap64 ((wrap64 (Int.tdiv (wrap64 (a1 - 1)) a0_0)) * a0_0)))) ≤ 1073741824) = true := decide_eq_true c6
    clear c6
    simp only [Option.some.injEq, Prod.mk.injEq] at H
    obtain ⟨rfl, rfl⟩ := H
    go_enter Try.func20, Try.ntmps20
    go_wp2_with (first | ((with_reducible refine gate_dst (N := 2) rfl ?_); refine box_event ?hg (N := 2) ?hd (cs := #[.int .i64 a0_0, .int .i64 a0_1]) (t := 24) ?hr ?_; (case hd => rfl); (case hg => rfl); (case hr => first | (go_simp; done) | (go_simp; rfl)); intro gb108 hg w7 hbox hb; have n0_ := Aside0.mk (below_step (by repeat (first | (with_reducible first | exact HB.out | apply below_alloc | apply pw_below_drewN | apply below_drew1) | exact HB.out)) hb); have n1_ := Aside0.mk (hbox); have n2_ := Aside0.mk ((by rw [hg]; exact (below_size (by repeat (first | (with_reducible first | exact HB.out | apply below_alloc | apply pw_below_drewN | apply below_drew1) | exact HB.out))) : w.heap.size ≤ gb108)); have n3_ := Aside0.mk ((by rw [hg]; exact (below_size (by repeat (first | (with_reducible first | exact HB.out | apply below_alloc | apply pw_below_drewN | apply below_drew1) | exact HB.out))) : w.heap.size ≤ gb108)); clear HB; have HB := n0_; have BK108 := n1_; have GW108 := n2_; have GE108 := n3_; clear n0_ n1_ n2_ n3_; clear hb hbox hg; have hcz8_0 : w7.cell? ⟨gb108, 0, none⟩ = some (.int .i64 a0_0) := (blk_cell BK108.out 0).trans (by rfl); have hcz8_1 : w7.cell? ⟨gb108, 1, none⟩ = some (.int .i64 a0_1) := (blk_cell BK108.out 1).trans (by rfl); have hfz8_0 := blk_frozen BK108.out 0; have hfz8_1 := blk_frozen BK108.out 1))
    go_ret2
    exact ⟨by first | rfl | (simp [errW_none, errW_some] <;> rfl) | (simp [*, errW_none, errW_some] <;> rfl), by repeat (first | (with_reducible first | exact HB.out | apply below_alloc | apply pw_below_drewN | apply below_drew1 | refine below_set ?_ GE108.out) | exact HB.out)⟩
   ·rw [if_neg c6] at H
    have c6b0 : decide ((wrap64 ((wrap64 ((wrap64 ((wrap64 (2 * (wrap64 (a0_1 - a0_0)))) + (wrap64 ((wrap64 (Int.tdiv (wrap64 (a1 - 1)) a0_0)) * a0_1)))) + a1)) - (wrap64 ((wrap64 (Int.tdiv (wrap64 (a1 - 1)) a0_0)) * a0_0)))) ≤ 1073741824) = false := decide_eq_false c6
    clear c6
    simp only [Option.some.injEq, Prod.mk.injEq] at H
    obtain ⟨rfl, rfl⟩ := H
    go_enter Try.func20, Try.ntmps20
    go_wp2_with (first | ((with_reducible refine gate_dst (N := 2) rfl ?_); refine box_event ?hg (N := 2) ?hd (cs := #[.int .i64 a0_0, .int .i64 a0_1]) (t := 24) ?hr ?_; (case hd => rfl); (case hg => rfl); (case hr => first | (go_simp; done) | (go_simp; rfl)); intro gb108 hg w9 hbox hb; have n0_ := Aside0.mk (below_step (by repeat (first | (with_reducible first | exact HB.out | apply below_alloc | apply pw_below_drewN | apply below_drew1) | exact HB.out)) hb); have n1_ := Aside0.mk (hbox); have n2_ := Aside0.mk ((by rw [hg]; exact (below_size (by repeat (first | (with_reducible first | exact HB.out | apply below_alloc | apply pw_below_drewN | apply below_drew1) | exact HB.out))) : w.heap.size ≤ gb108)); have n3_ := Aside0.mk ((by rw [hg]; exact (below_size (by repeat (first | (with_reducible first | exact HB.out | apply below_alloc | apply pw_below_drewN | apply below_drew1) | exact HB.out))) : w.heap.size ≤ gb108)); clear HB; have HB := n0_; have BK108 := n1_; have GW108 := n2_; have GE108 := n3_; clear n0_ n1_ n2_ n3_; clear hb hbox hg; have hcz10_0 : w9.cell? ⟨gb108, 0, none⟩ = some (.int .i64 a0_0) := (blk_cell BK108.out 0).trans (by rfl); have hcz10_1 : w9.cell? ⟨gb108, 1, none⟩ = some (.int .i64 a0_1) := (blk_cell BK108.out 1).trans (by rfl); have hfz10_0 := blk_frozen BK108.out 0; have hfz10_1 := blk_frozen BK108.out 1))
    go_ret2
    exact ⟨by first | rfl | (simp [errW_none, errW_some] <;> rfl) | (simp [*, errW_none, errW_some] <;> rfl), by repeat (first | (with_reducible first | exact HB.out | apply below_alloc | apply pw_below_drewN | apply below_drew1 | refine below_set ?_ GE108.out) | exact HB.out)⟩

end Go.Proofs.Ytaoicceakgipgaa.B
