/- Proved here: what the machine does at calls of the functions that the laws reach is what plain functions of the same names say, or a row of the given statement out of that. No conditions. Written by a program of this session over the printer of the kit. -/
import Derived.Test.YtaoicceakgipgaaBx0
namespace Go.Proofs.Ytaoicceakgipgaa.B
open Go.RowKit Go.Proofs.YtaoicceakgipgaaW.PrintWords Go.Proofs.YtaoicceakgipgaaW.PrintLast Go.Proofs.YtaoicceakgipgaaW.PrintMore
attribute [local go_sem] max2_int min2_int max_two min_two max_three min_three max_four min_four   -- for this text's walks alone
set_option linter.unusedVariables false
set_option linter.unusedSimpArgs false

/-! ### supply_least: function 16 -/
def supply_least.f (a0 : Int) (a1 : Int) (a2 : Int) : Option (Int) := if a2 ≤ (wrap64 (a1 - a0)) then (some 0) else (if a1 = 0 then (none) else (some (wrap64 ((wrap64 ((wrap64 (Int.tdiv (wrap64 (a2 - (wrap64 (a1 - a0)))) a1)) * a0)) + (mx 0 (wrap64 ((wrap64 ((wrap64 (a2 - (wrap64 (a1 - a0)))) - (wrap64 ((wrap64 (Int.tdiv (wrap64 (a2 - (wrap64 (a1 - a0)))) a1)) * a1)))) - (wrap64 (a1 - a0)))))))))
set_option maxHeartbeats 8000000 in
set_option maxRecDepth 100000 in
theorem supply_least.calls (a0 : Int) (a1 : Int) (a2 : Int) (r : Int) (w : World) (h : supply_least.f a0 a1 a2 = some r) :
  Calls Try.prog 16 #[.int .i64 a0, .int .i64 a1, .int .i64 a2] w fun e w' => e = .returned (.int .i64 r) ∧ Below w.heap.size w w' := by
 have HB := Aside0.mk (Below.refl w.heap.size w)
 have H : (if a2 ≤ (wrap64 (a1 - a0)) then (some 0) else (if a1 = 0 then (none) else (some (wrap64 ((wrap64 ((wrap64 (Int.tdiv (wrap64 (a2 - (wrap64 (a1 - a0)))) a1)) * a0)) + (mx 0 (wrap64 ((wrap64 ((wrap64 (a2 - (wrap64 (a1 - a0)))) - (wrap64 ((wrap64 (Int.tdiv (wrap64 (a2 - (wrap64 (a1 - a0)))) a1)) * a1)))) - (wrap64 (a1 - a0)))))))))) = some r := h
 clear h
 by_cases c4 : a2 ≤ (wrap64 (a1 - a0))
 ·rw [if_pos c4] at H
  have c4b0 : decide (a2 ≤ (wrap64 (a1 - a0))) = true := decide_eq_true c4
  clear c4
  obtain rfl := Option.some.inj H
  go_enter Try.func16, Try.ntmps16
  go_wp2
  go_ret
  exact ⟨by first | rfl | (simp [errW_none, errW_some] <;> rfl) | (simp [*, errW_none, errW_some] <;> rfl), by repeat (first | (with_reducible first | exact HB.out | apply below_alloc | apply pw_below_drewN | apply below_drew1) | exact HB.out)⟩
 ·rw [if_neg c4] at H
  have c4b0 : decide (a2 ≤ (wrap64 (a1 - a0))) = false := decide_eq_false c4
  clear c4
  by_cases c5 : a1 = 0
  ·rw [if_pos c5] at H
   exact absurd H (by simp)
  ·rw [if_neg c5] at H
   have c5b0 : (a1 == 0) = false := beq_eq_false_iff_ne.mpr c5
   have c5b1 : (a1 != 0) = true := bne_iff_ne.mpr c5
   obtain ⟨ji6, hji6⟩ : ∃ j_ : Int, (mx 0 (wrap64 ((wrap64 ((wrap64 (a2 - (wrap64 (a1 - a0)))) - (wrap64 ((wrap64 (Int.tdiv (wrap64 (a2 - (wrap64 (a1 - a0)))) a1)) * a1)))) - (wrap64 (a1 - a0))))) = j_ := ⟨_, rfl⟩
   replace H : (some (wrap64 ((wrap64 ((wrap64 (Int.tdiv (wrap64 (a2 - (wrap64 (a1 - a0)))) a1)) * a0)) + (ji6)))) = some r := by first | (rw [hji6] at H; exact H) | (simp only [hji6] at H ⊢; exact H)
   (try (have hji6l : 0 ≤ ji6 := by (rw [← hji6]; unfold mx; (repeat' split) <;> omega)))
   (try (have hji6m : 0 ≤ ji6 := by omega))
   have hji6_ : (if 0 < (wrap64 ((wrap64 ((wrap64 (a2 - (wrap64 (a1 - a0)))) - (wrap64 ((wrap64 (Int.tdiv (wrap64 (a2 - (wrap64 (a1 - a0)))) a1)) * a1)))) - (wrap64 (a1 - a0)))) then (wrap64 ((wrap64 ((wrap64 (a2 - (wrap64 (a1 - a0)))) - (wrap64 ((wrap64 (Int.tdiv (wrap64 (a2 - (wrap64 (a1 - a0)))) a1)) * a1)))) - (wrap64 (a1 - a0)))) else 0) = ji6 := hji6
   obtain rfl := Option.some.inj H
   go_enter Try.func16, Try.ntmps16
   go_wp2
   go_ret
   exact ⟨by first | rfl | (simp [errW_none, errW_some] <;> rfl) | (simp only [← hji6]; first | rfl | (simp [errW_none, errW_some] <;> rfl)) | (simp [*, errW_none, errW_some] <;> rfl), by repeat (first | (with_reducible first | exact HB.out | apply below_alloc | apply pw_below_drewN | apply below_drew1) | exact HB.out)⟩

end Go.Proofs.Ytaoicceakgipgaa.B
