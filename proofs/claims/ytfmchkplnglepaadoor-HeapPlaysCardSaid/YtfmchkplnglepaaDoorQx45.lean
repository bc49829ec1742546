/- Proved here: what the machine does at calls of the functions that the laws reach is what plain functions of the same names say, or a row of the given statement out of that. No conditions. Written by a program of this session over the printer of the kit. -/
import Derived.Test.YtfmchkplnglepaaDoorQx0
namespace Go.Proofs.YtfmchkplnglepaaDoor.Q
open Go.RowKit Go.Proofs.YtfmchkplnglepaaDoorW.PrintWords Go.Proofs.YtfmchkplnglepaaDoorW.PrintLast Go.Proofs.YtfmchkplnglepaaDoorW.PrintMore
attribute [local go_sem] max2_int min2_int max_two min_two max_three min_three max_four min_four   -- for this text's walks alone
set_option linter.unusedVariables false
set_option linter.unusedSimpArgs false

/-! ### tithelaw05_first: function 31 -/
def tithelaw05_first.f (l0 : List (S89)) : Option (Int × Int × Bool) := if (l0.length : Int) = 0 then (some (0, 0, false)) else (if 0 < (l0.length : Int) then (some ((rd_T89 l0 0).f0, (rd_T89 l0 0).f1, true)) else (none))
set_option maxHeartbeats 8000000 in
set_option maxRecDepth 100000 in
theorem tithelaw05_first.calls (A0 : Option Addr) (c0 : Nat) (l0 : List (S89)) (r1 : Int) (r2 : Int) (r3 : Bool) (w : World) (hr0 : Kd.C k89 w A0 l0.length l0) (hc0 : l0.length ≤ c0) (h : tithelaw05_first.f l0 = some (r1, r2, r3)) :
  Calls Tryd.prog 31 #[.slice A0 l0.length c0] w fun e w' => e = .returned (.tuple #[.int .i64 r1, .int .i64 r2, .bool r3]) ∧ Drawn0 w w' := by
 have HR0 := Aside0.mk hr0
 have HC0 := Aside0.mk hc0
 clear hr0 hc0
 have H : (if (l0.length : Int) = 0 then (some (0, 0, false)) else (if 0 < (l0.length : Int) then (some ((rd_T89 l0 0).f0, (rd_T89 l0 0).f1, true)) else (none))) = some (r1, r2, r3) := h
 clear h
 by_cases c2 : (l0.length : Int) = 0
 ·rw [if_pos c2] at H
  have c2b0 : ((l0.length : Int) == 0) = true := beq_iff_eq.mpr c2
  have c2b1 : ((l0.length : Int) != 0) = false := bne_eq_false_iff_eq.mpr c2
  clear c2
  simp only [Option.some.injEq, Prod.mk.injEq] at H
  obtain ⟨rfl, rfl, rfl⟩ := H
  go_enter Tryd.func31, Tryd.ntmps31
  go_wp2
  repeat (go_quiet (fail); try go_wp2)
  go_ret3
  exact ⟨by first | rfl | (simp; done) | (simp [*]; done), by repeat (first | exact Drawn0.refl _ | apply Drawn0.step)⟩
 ·rw [if_neg c2] at H
  have c2b0 : ((l0.length : Int) == 0) = false := beq_eq_false_iff_ne.mpr c2
  have c2b1 : ((l0.length : Int) != 0) = true := bne_iff_ne.mpr c2
  have c2b2 : ¬ (l0 = []) := fun h_ => c2 (by rw [h_]; rfl)
  by_cases c3 : 0 < (l0.length : Int)
  ·rw [if_pos c3] at H
   have c3b0 : decide (0 < (l0.length : Int)) = true := decide_eq_true c3
   have c3b1 : decide (0 < l0.length) = true := decide_eq_true (by omega)
   clear c3
   simp only [Option.some.injEq, Prod.mk.injEq] at H
   obtain ⟨rfl, rfl, rfl⟩ := H
   have p208 : 0 ≤ (0 : Int) := (by omega)
   have q208 : 0 < (l0.length : Int) := of_decide_eq_true (by first | (with_reducible assumption) | assumption)
   obtain ⟨ad208, e208, hx208_0, hx208_1⟩ := at_T89 HR0.out 0 p208 q208
   cases e208
   have qi208 : (0 < l0.length) = True := eq_true (by omega)
   (try rw [show ((0 : Int)).toNat = 0 from rfl] at hx208_0)
   (try rw [show 0 * 2 = 0 from rfl] at hx208_0)
   (try rw [Addr.add_zero'] at hx208_0)
   (try rw [show ((0 : Int)).toNat = 0 from rfl] at hx208_1)
   (try rw [show 0 * 2 = 0 from rfl] at hx208_1)
   (try rw [Addr.add_zero'] at hx208_1)
   replace p208 := eq_true p208
   replace q208 := eq_true q208
   have p209 : 0 ≤ (0 : Int) := (by omega)
   have q209 : 0 < (l0.length : Int) := of_decide_eq_true (by first | (with_reducible assumption) | assumption)
   obtain ⟨ad209, e209, hx209_0, hx209_1⟩ := at_T89 HR0.out 0 p209 q209
   obtain rfl : ad208 = ad209 := (by injection e209)
   have qi209 : (0 < l0.length) = True := eq_true (by omega)
   (try rw [show ((0 : Int)).toNat = 0 from rfl] at hx209_0)
   (try rw [show 0 * 2 = 0 from rfl] at hx209_0)
   (try rw [Addr.add_zero'] at hx209_0)
   (try rw [show ((0 : Int)).toNat = 0 from rfl] at hx209_1)
   (try rw [show 0 * 2 = 0 from rfl] at hx209_1)
   (try rw [Addr.add_zero'] at hx209_1)
   replace p209 := eq_true p209
   replace q209 := eq_true q209
   go_enter Tryd.func31, Tryd.ntmps31
   go_wp2 <;> (try (exact absurd (of_eq_true qi209) (by assumption)))
   repeat (go_quiet (fail); try go_wp2)
   go_ret3
   exact ⟨by first | rfl | (simp; done) | (simp [*]; done), by repeat (first | exact Drawn0.refl _ | apply Drawn0.step)⟩
  ·rw [if_neg c3] at H
   exact absurd H (by simp)

end Go.Proofs.YtfmchkplnglepaaDoor.Q
