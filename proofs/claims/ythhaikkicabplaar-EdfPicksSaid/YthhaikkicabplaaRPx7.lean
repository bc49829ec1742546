/- Proved here: what the machine does at calls of the functions that the laws reach is what plain functions of the same names say, or a row of the given statement out of that. No conditions. Written by a program of this session over the printer of the kit. -/
import Derived.Test.YthhaikkicabplaaRPx0
import Derived.Test.YthhaikkicabplaaRPx2
namespace Go.Proofs.YthhaikkicabplaaR.P
open Go.RowKit Go.Proofs.YthhaikkicabplaaRW.PrintWords Go.Proofs.YthhaikkicabplaaRW.PrintLast Go.Proofs.YthhaikkicabplaaRW.PrintMore
attribute [local go_sem] max2_int min2_int max_two min_two max_three min_three max_four min_four   -- for this text's walks alone
set_option linter.unusedVariables false
set_option linter.unusedSimpArgs false

/-! ### edf_Missed: function 20 -/
mutual
def edf_Missed.l0 : Nat → List (S55) → List Int → List Int → Int → Int → Option (List Int × Option Int)
 | 0, _, _, _, _, _ => none
 | k + 1, x0, x1, x20, x21, x22 => if x22 < x21 then (if 0 ≤ x22 then (if x22 < (x20.length : Int) then (if (rd x20 x22) < (-1) then (some (([] : List Int), some 1)) else (if (rd x20 x22) ≥ (x0.length : Int) then (some (([] : List Int), some 1)) else (edf_Missed.l0 k x0 x1 x20 x21 (wrap64 (x22 + 1))))) else (none)) else (none)) else ((edf_Valid.f k x0).bind fun t128 => (if t128.isNone = true then (if 0 ≤ (x0.length : Int) then (if ((x0.length : Int) : Int).toNat ≤ 35184372088832 then (edf_Missed.l1 k x1 (List.replicate ((x0.length : Int) : Int).toNat 0) x0 (x0.length : Int) 0) else (none)) else (none)) else (some (([] : List Int), some (t128.getD 0)))))
def edf_Missed.l1 : Nat → List Int → List Int → List (S55) → Int → Int → Option (List Int × Option Int)
 | 0, _, _, _, _, _ => none
 | k + 1, x1, x9, x44, x45, x46 => if x46 < x45 then (if 0 ≤ x46 then (if x46 < (x44.length : Int) then (edf_Missed.l2 k x1 x9 x46 ((rd_T55 x44 x46).f2) x44 x45 x46 ((rd_T55 x44 x46).f0) ((rd_T55 x44 x46).f1) ((rd_T55 x44 x46).f2)) else (none)) else (none)) else (some (x9, none))
def edf_Missed.l2 : Nat → List Int → List Int → Int → Int → List (S55) → Int → Int → Int → Int → Int → Option (List Int × Option Int)
 | 0, _, _, _, _, _, _, _, _, _, _ => none
 | k + 1, x1, x9, x10, x12, x44, x45, x46, x135000, x135001, x135002 => if (wrap64 (x12 + x135001)) ≤ (x1.length : Int) then (if 0 ≤ x12 then (if x12 ≤ (wrap64 (x12 + x135001)) then (edf_Missed.l3 k x1 x9 x10 x12 0 x44 x45 x46 ((x1.take ((wrap64 (x12 + x135001)) : Int).toNat).drop (x12 : Int).toNat) (((x1.take ((wrap64 (x12 + x135001)) : Int).toNat).drop (x12 : Int).toNat).length : Int) 0 x135000 x135001 x135002) else (none)) else (none)) else (edf_Missed.l1 k x1 x9 x44 x45 (wrap64 (x46 + 1)))
def edf_Missed.l3 : Nat → List Int → List Int → Int → Int → Int → List (S55) → Int → Int → List Int → Int → Int → Int → Int → Int → Option (List Int × Option Int)
 | 0, _, _, _, _, _, _, _, _, _, _, _, _, _, _ => none
 | k + 1, x1, x9, x10, x12, x13, x44, x45, x46, x70, x71, x72, x135000, x135001, x135002 => if x72 < x71 then (if 0 ≤ x72 then (if x72 < (x70.length : Int) then (if (rd x70 x72) = x10 then (edf_Missed.l3 k x1 x9 x10 x12 (wrap64 (x13 + 1)) x44 x45 x46 x70 x71 (wrap64 (x72 + 1)) x135000 x135001 x135002) else (edf_Missed.l3 k x1 x9 x10 x12 x13 x44 x45 x46 x70 x71 (wrap64 (x72 + 1)) x135000 x135001 x135002)) else (none)) else (none)) else (if x13 < x135000 then (if 0 ≤ x10 then (if x10 < (x9.length : Int) then (edf_Missed.l2 k x1 (x9.set (x10 : Int).toNat (wrap64 ((rd x9 x10) + 1))) x10 (wrap64 (x12 + x135001)) x44 x45 x46 x135000 x135001 x135002) else (none)) else (none)) else (edf_Missed.l2 k x1 x9 x10 (wrap64 (x12 + x135001)) x44 x45 x46 x135000 x135001 x135002))
end
def edf_Missed.f (k : Nat) (l0 : List (S55)) (l1 : List Int) : Option (List Int × Option Int) := if (l1.length : Int) > 4096 then (some (([] : List Int), some 1)) else (edf_Missed.l0 k l0 l1 l1 (l1.length : Int) 0)
theorem edf_Missed.mono_l : ∀ k, (∀ y0 y1 y2 y3 y4, LeO (edf_Missed.l0 k y0 y1 y2 y3 y4) (edf_Missed.l0 (k + 1) y0 y1 y2 y3 y4)) ∧ (∀ y0 y1 y2 y3 y4, LeO (edf_Missed.l1 k y0 y1 y2 y3 y4) (edf_Missed.l1 (k + 1) y0 y1 y2 y3 y4)) ∧ (∀ y0 y1 y2 y3 y4 y5 y6 y7 y8 y9, LeO (edf_Missed.l2 k y0 y1 y2 y3 y4 y5 y6 y7 y8 y9) (edf_Missed.l2 (k + 1) y0 y1 y2 y3 y4 y5 y6 y7 y8 y9)) ∧ (∀ y0 y1 y2 y3 y4 y5 y6 y7 y8 y9 y10 y11 y12 y13, LeO (edf_Missed.l3 k y0 y1 y2 y3 y4 y5 y6 y7 y8 y9 y10 y11 y12 y13) (edf_Missed.l3 (k + 1) y0 y1 y2 y3 y4 y5 y6 y7 y8 y9 y10 y11 y12 y13))
 | 0 => ⟨fun _ _ _ _ _ r h => by simp [edf_Missed.l0] at h, fun _ _ _ _ _ r h => by simp [edf_Missed.l1] at h, fun _ _ _ _ _ _ _ _ _ _ r h => by simp [edf_Missed.l2] at h, fun _ _ _ _ _ _ _ _ _ _ _ _ _ _ r h => by simp [edf_Missed.l3] at h⟩
 | k + 1 => by
  obtain ⟨ih0, ih1, ih2, ih3⟩ := edf_Missed.mono_l k
  refine ⟨?_, ?_, ?_, ?_⟩
  ·intro y0 y1 y2 y3 y4
   unfold edf_Missed.l0
   repeat' first
   | (with_reducible exact ih0 _ _ _ _ _)
   | (with_reducible exact ih1 _ _ _ _ _)
   | (with_reducible exact ih2 _ _ _ _ _ _ _ _ _ _)
   | (with_reducible exact ih3 _ _ _ _ _ _ _ _ _ _ _ _ _ _)
   | (with_reducible exact edf_Valid.mono _ _)
   | (with_reducible exact LeO.refl _)
   | (with_reducible exact LeO.none _)
   | (with_reducible refine LeO.ite ?_ ?_)
   | (with_reducible refine LeO.bind ?_ (fun _ => ?_))
   | exact ih0 _ _ _ _ _
   | exact ih1 _ _ _ _ _
   | exact ih2 _ _ _ _ _ _ _ _ _ _
   | exact ih3 _ _ _ _ _ _ _ _ _ _ _ _ _ _
   | exact edf_Valid.mono _ _
   | exact LeO.none _
   | refine LeO.ite ?_ ?_
   | refine LeO.bind ?_ (fun _ => ?_)
  ·intro y0 y1 y2 y3 y4
   unfold edf_Missed.l1
   repeat' first
   | (with_reducible exact ih0 _ _ _ _ _)
   | (with_reducible exact ih1 _ _ _ _ _)
   | (with_reducible exact ih2 _ _ _ _ _ _ _ _ _ _)
   | (with_reducible exact ih3 _ _ _ _ _ _ _ _ _ _ _ _ _ _)
   | (with_reducible exact edf_Valid.mono _ _)
   | (with_reducible exact LeO.refl _)
   | (with_reducible exact LeO.none _)
   | (with_reducible refine LeO.ite ?_ ?_)
   | (with_reducible refine LeO.bind ?_ (fun _ => ?_))
   | exact ih0 _ _ _ _ _
   | exact ih1 _ _ _ _ _
   | exact ih2 _ _ _ _ _ _ _ _ _ _
   | exact ih3 _ _ _ _ _ _ _ _ _ _ _ _ _ _
   | exact edf_Valid.mono _ _
   | exact LeO.none _
   | refine LeO.ite ?_ ?_
   | refine LeO.bind ?_ (fun _ => ?_)
  ·intro y0 y1 y2 y3 y4 y5 y6 y7 y8 y9
   unfold edf_Missed.l2
   repeat' first
   | (with_reducible exact ih0 _ _ _ _ _)
   | (with_reducible exact ih1 _ _ _ _ _)
   | (with_reducible exact ih2 _ _ _ _ _ _ _ _ _ _)
   | (with_reducible exact ih3 _ _ _ _ _ _ _ _ _ _ _ _ _ _)
   | (with_reducible exact edf_Valid.mono _ _)
   | (with_reducible exact LeO.refl _)
   | (with_reducible exact LeO.none _)
   | (with_reducible refine LeO.ite ?_ ?_)
   | (with_reducible refine LeO.bind ?_ (fun _ => ?_))
   | exact ih0 _ _ _ _ _
   | exact ih1 _ _ _ _ _
   | exact ih2 _ _ _ _ _ _ _ _ _ _
   | exact ih3 _ _ _ _ _ _ _ _ _ _ _ _ _ _
   | exact edf_Valid.mono _ _
   | exact LeO.none _
   | refine LeO.ite ?_ ?_
   | refine LeO.bind ?_ (fun _ => ?_)
  ·intro y0 y1 y2 y3 y4 y5 y6 y7 y8 y9 y10 y11 y12 y13
   unfold edf_Missed.l3
   repeat' first
   | (with_reducible exact ih0 _ _ _ _ _)
   | (with_reducible exact ih1 _ _ _ _ _)
   | (with_reducible exact ih2 _ _ _ _ _ _ _ _ _ _)
   | (with_reducible exact ih3 _ _ _ _ _ _ _ _ _ _ _ _ _ _)
   | (with_reducible exact edf_Valid.mono _ _)
   | (with_reducible exact LeO.refl _)
   | (with_reducible exact LeO.none _)
   | (with_reducible refine LeO.ite ?_ ?_)
   | (with_reducible refine LeO.bind ?_ (fun _ => ?_))
   | exact ih0 _ _ _ _ _
   | exact ih1 _ _ _ _ _
   | exact ih2 _ _ _ _ _ _ _ _ _ _
   | exact ih3 _ _ _ _ _ _ _ _ _ _ _ _ _ _
   | exact edf_Valid.mono _ _
   | exact LeO.none _
   | refine LeO.ite ?_ ?_
   | refine LeO.bind ?_ (fun _ => ?_)
theorem edf_Missed.mono : ∀ a0 a1 k, LeO (edf_Missed.f k a0 a1) (edf_Missed.f (k + 1) a0 a1) := by
 intro a0 a1 k
 obtain ⟨ih0, ih1, ih2, ih3⟩ := edf_Missed.mono_l k
 unfold edf_Missed.f
 repeat' first
   | (with_reducible exact ih0 _ _ _ _ _)
   | (with_reducible exact ih1 _ _ _ _ _)
   | (with_reducible exact ih2 _ _ _ _ _ _ _ _ _ _)
   | (with_reducible exact ih3 _ _ _ _ _ _ _ _ _ _ _ _ _ _)
   | (with_reducible exact edf_Valid.mono _ _)
   | (with_reducible exact LeO.refl _)
   | (with_reducible exact LeO.none _)
   | (with_reducible refine LeO.ite ?_ ?_)
   | (with_reducible refine LeO.bind ?_ (fun _ => ?_))
   | exact ih0 _ _ _ _ _
   | exact ih1 _ _ _ _ _
   | exact ih2 _ _ _ _ _ _ _ _ _ _
   | exact ih3 _ _ _ _ _ _ _ _ _ _ _ _ _ _
   | exact edf_Valid.mono _ _
   | exact LeO.none _
   | refine LeO.ite ?_ ?_
   | refine LeO.bind ?_ (fun _ => ?_)
set_option maxHeartbeats 8000000 in
set_option maxRecDepth 100000 in
theorem edf_Missed.calls (k : Nat) (A0 : Option Addr) (c0 : Nat) (l0 : List (S55)) (A1 : Option Addr) (c1 : Nat) (l1 : List Int) (r1 : List Int) (r2 : Option Int) (w : World) (hr0 : Kd.C k55 w A0 l0.length l0) (hc0 : l0.length ≤ c0) (hr1 : Kd.C (Kd.int .i64) w A1 l1.length l1) (hc1 : l1.length ≤ c1) (h : edf_Missed.f k l0 l1 = some (r1, r2)) :
  Calls Try.prog 20 #[.slice A0 l0.length c0, .slice A1 l1.length c1] w fun e w' => ∃ v0_ : Value, e = .returned (.tuple #[v0_, errW r2]) ∧ Kd.R (Kd.int .i64) 3 w' w.heap.size (fun _ => True) v0_ r1 ∧ Below w.heap.size w w' := by
 have hu55 := Try.underlying55
 have hu25 := Try.underlying25
 have hu66 := Try.underlying66
 have HR0 := Aside0.mk hr0
 have HC0 := Aside0.mk hc0
 clear hr0 hc0
 have HR1 := Aside0.mk hr1
 have HC1 := Aside0.mk hc1
 clear hr1 hc1
 have HB := Aside0.mk (Below.refl w.heap.size w)
 have H : (if (l1.length : Int) > 4096 then (some (([] : List Int), some 1)) else (edf_Missed.l0 k l0 l1 l1 (l1.length : Int) 0)) = some (r1, r2) := h
 clear h
 by_cases c3 : (l1.length : Int) > 4096
 ·rw [if_pos c3] at H
  have c3b0 : decide (4096 < (l1.length : Int)) = true := decide_eq_true c3
  have c3b1 : decide (4096 < l1.length) = true := decide_eq_true (by omega)
  clear c3
  simp only [Option.some.injEq, Prod.mk.injEq] at H
  obtain ⟨rfl, rfl⟩ := H
  go_enter Try.func20, Try.ntmps20
  go_wp2
  go_ret2
  exact ⟨_, by first | rfl | (simp [errW_none, errW_some] <;> rfl) | (simp [*, errW_none, errW_some] <;> rfl), by first | exact Kd.R_nil _ _ _ _ _ | exact Kd.N_nil _ _ _ _ _ | exact Kd.V_nil _ _ _ _ _ | exact Kd.Q_nil _ _ _ _ _ | exact Kd.S_nil _ _ _ _ _, by repeat (first | (with_reducible first | exact HB.out | apply below_alloc | apply pw_below_drewN | apply below_drew1) | exact HB.out)⟩
 ·rw [if_neg c3] at H
  have c3b0 : decide (4096 < (l1.length : Int)) = false := decide_eq_false c3
  have c3b1 : decide (4096 < l1.length) = false := decide_eq_false (by omega)
  clear c3
  have H' := Aside0.mk H
  clear H
  go_enter Try.func20, Try.ntmps20
  go_wp2
  go_loopg [22] k (fun kq v22 w' => ∃ (x22_1 : Int), v22 = .int .i64 x22_1 ∧ Aside0 (edf_Missed.l0 kq l0 l1 l1 (l1.length : Int) x22_1 = some (r1, r2)) ∧ Aside0 (kq ≤ k) ∧ Aside0 (Below w.heap.size w w'))
  case atStart => exact ⟨(0), (by first | rfl | (simp; done) | (simp [*]; done)), H', ⟨Nat.le_refl _⟩, ⟨by repeat (first | (with_reducible first | exact HB.out | apply below_alloc | apply pw_below_drewN | apply below_drew1) | exact HB.out)⟩⟩
  case round =>
   clear H'
   try clear c1
   try clear c2
   try clear p2
   try clear c3
   try clear c3b0
   try clear c3b1
   obtain ⟨x22_1, rfl, HA, HK1, HB⟩ := hrel
   cases gk with
   | zero => exact absurd HA.out (by simp [edf_Missed.l0])
   | succ k1 =>
    have H := HA.out
    clear HA
    simp only [edf_Missed.l0] at H
    by_cases c4 : x22_1 < (l1.length : Int)
    ·rw [if_pos c4] at H
     have c4b0 : decide (x22_1 < (l1.length : Int)) = true := decide_eq_true c4
     clear c4
     by_cases c5 : 0 ≤ x22_1
     ·rw [if_pos c5] at H
      have c5b0 : decide (0 ≤ x22_1) = true := decide_eq_true c5
      clear c5
      by_cases c6 : x22_1 < (l1.length : Int)
      ·rw [if_pos c6] at H
       have c6b0 : decide (x22_1 < (l1.length : Int)) = true := decide_eq_true c6
       clear c6
       by_cases c7 : (rd l1 x22_1) < (-1)
       ·rw [if_pos c7] at H
        have c7b0 : decide ((rd l1 x22_1) < (-1)) = true := decide_eq_true c7
        clear c7
        simp only [Option.some.injEq, Prod.mk.injEq] at H
        obtain ⟨rfl, rfl⟩ := H
        have p127 : 0 ≤ (x22_1 : Int) := of_decide_eq_true (by first | (with_reducible assumption) | assumption)
        have q127 : x22_1 < (l1.length : Int) := of_decide_eq_true (by first | (with_reducible assumption) | assumption)
        obtain ⟨ad127, e127, hx127_0⟩ := Kd.at_int HR1.out x22_1 p127 q127
        cases e127
        replace hx127_0 := (HB.out.cell (World.block_lt_of_cell? w _ hx127_0)).trans hx127_0
        replace p127 := eq_true p127
        replace q127 := eq_true q127
        go_wp2
        go_ret2
        exact ⟨_, by first | rfl | (simp [errW_none, errW_some] <;> rfl) | (simp [*, errW_none, errW_some] <;> rfl), by first | exact Kd.R_nil _ _ _ _ _ | exact Kd.N_nil _ _ _ _ _ | exact Kd.V_nil _ _ _ _ _ | exact Kd.Q_nil _ _ _ _ _ | exact Kd.S_nil _ _ _ _ _, by repeat (first | (with_reducible first | exact HB.out | apply below_alloc | apply pw_below_drewN | apply below_drew1) | exact HB.out)⟩
       ·rw [if_neg c7] at H
        have c7b0 : decide ((rd l1 x22_1) < (-1)) = false := decide_eq_false c7
        clear c7
        by_cases c8 : (rd l1 x22_1) ≥ (l0.length : Int)
        ·rw [if_pos c8] at H
         have c8b0 : decide ((l0.length : Int) ≤ (rd l1 x22_1)) = true := decide_eq_true c8
         clear c8
         simp only [Option.some.injEq, Prod.mk.injEq] at H
         obtain ⟨rfl, rfl⟩ := H
         have p127 : 0 ≤ (x22_1 : Int) := of_decide_eq_true (by first | (with_reducible assumption) | assumption)
         have q127 : x22_1 < (l1.length : Int) := of_decide_eq_true (by first | (with_reducible assumption) | assumption)
         obtain ⟨ad127, e127, hx127_0⟩ := Kd.at_int HR1.out x22_1 p127 q127
         cases e127
         replace hx127_0 := (HB.out.cell (World.block_lt_of_cell? w _ hx127_0)).trans hx127_0
         replace p127 := eq_true p127
         replace q127 := eq_true q127
         go_wp2
         go_ret2
         exact ⟨_, by first | rfl | (simp [errW_none, errW_some] <;> rfl) | (simp [*, errW_none, errW_some] <;> rfl), by first | exact Kd.R_nil _ _ _ _ _ | exact Kd.N_nil _ _ _ _ _ | exact Kd.V_nil _ _ _ _ _ | exact Kd.Q_nil _ _ _ _ _ | exact Kd.S_nil _ _ _ _ _, by repeat (first | (with_reducible first | exact HB.out | apply below_alloc | apply pw_below_drewN | apply below_drew1) | exact HB.out)⟩
        ·rw [if_neg c8] at H
         have c8b0 : decide ((l0.length : Int) ≤ (rd l1 x22_1)) = false := decide_eq_false c8
         clear c8
         have H' := Aside0.mk H
         clear H
         have p127 : 0 ≤ (x22_1 : Int) := of_decide_eq_true (by first | (with_reducible assumption) | assumption)
         have q127 : x22_1 < (l1.length : Int) := of_decide_eq_true (by first | (with_reducible assumption) | assumption)
         obtain ⟨ad127, e127, hx127_0⟩ := Kd.at_int HR1.out x22_1 p127 q127
         cases e127
         replace hx127_0 := (HB.out.cell (World.block_lt_of_cell? w _ hx127_0)).trans hx127_0
         replace p127 := eq_true p127
         replace q127 := eq_true q127
         go_wp2
         go_roundg k1
         case measure => have := HK1.out; omega
         case rel => exact ⟨(wrap64 (x22_1 + 1)), (by first | rfl | (simp; done) | (simp [*]; done)), H', ⟨by have := HK1.out; omega⟩, ⟨by repeat (first | (with_reducible first | exact HB.out | apply below_alloc | apply pw_below_drewN | apply below_drew1) | exact HB.out)⟩⟩
      ·rw [if_neg c6] at H
       exact absurd H (by simp)
     ·rw [if_neg c5] at H
      exact absurd H (by simp)
    ·rw [if_neg c4] at H
     have c4b0 : decide (x22_1 < (l1.length : Int)) = false := decide_eq_false c4
     clear c4
     replace H := Option.bind_eq_some_iff.mp H
     obtain ⟨t128, A90, H⟩ := H
     replace H : (if t128.isNone = true then (if 0 ≤ (l0.length : Int) then (if ((l0.length : Int) : Int).toNat ≤ 35184372088832 then (edf_Missed.l1 k1 l1 (List.replicate ((l0.length : Int) : Int).toNat 0) l0 (l0.length : Int) 0) else (none)) else (none)) else (some (([] : List Int), some (t128.getD 0)))) = some (r1, r2) := H
     have A9 := Aside0.mk A90
     clear A90
     rcases t128 with _ | q129
     ·have H1 : (if 0 ≤ (l0.length : Int) then (if ((l0.length : Int) : Int).toNat ≤ 35184372088832 then (edf_Missed.l1 k1 l1 (List.replicate ((l0.length : Int) : Int).toNat 0) l0 (l0.length : Int) 0) else (none)) else (none)) = some (r1, r2) := by rw [if_pos (show (none : Option Int).isNone = true by rfl)] at H; exact H
      clear H
      have H := H1
      clear H1
      try simp only [errW_none, errW_some]
      by_cases c10 : 0 ≤ (l0.length : Int)
      ·rw [if_pos c10] at H
       have c10b0 := eq_true c10
       have c10b1 : decide (0 ≤ (l0.length : Int)) = true := decide_eq_true c10
       clear c10
       by_cases c11 : ((l0.length : Int) : Int).toNat ≤ 35184372088832
       ·rw [if_pos c11] at H
        have c11b0 := eq_true c11
        have c11b1 : decide (((l0.length : Int) : Int).toNat ≤ 35184372088832) = true := decide_eq_true c11
        clear c11
        obtain ⟨y130, hy130⟩ : ∃ y_ : List Int, y_ = (List.replicate ((l0.length : Int) : Int).toNat 0) := ⟨_, rfl⟩
        replace H : (edf_Missed.l1 k1 l1 y130 l0 (l0.length : Int) 0) = some (r1, r2) := by first | (rw [hy130]; with_reducible exact H) | (have H2_ := (Option.bind_some _ _).symm.trans H; rw [hy130]; with_reducible exact H2_) | (have H2_ := (Option.bind_some _ _).symm.trans H; with_reducible exact H2_) | with_reducible exact H | (rw [hy130]; exact H) | exact H
        have Ny130 := Aside0.mk hy130
        clear hy130
        have H' := Aside0.mk H
        clear H
        go_wp2_with (first | ((with_reducible refine gate_callee (f := 17) rfl ?_); refine goesL_ (some 37) rfl rfl Try.func17 (by kernel_rfl) rfl #[.slice A0 l0.length c0] rfl (by (try simp only [List.map_toArray, List.map_cons, List.map_nil]); first | done | rfl | (simp only [List.length_drop, List.length_take]; rfl)) ?_; (with_reducible refine (edf_Valid.calls k1 _ _ l0 none _ ?side1 ?side2 A9.out).mono ?_); (case side1 => repeat (first | exact (Kd.C_below HR0.out HB.out) | (with_reducible refine Kd.C_alloc ?_ _) | (with_reducible refine Kd.C_drewN ?_ _) | (with_reducible refine Kd.C_drew ?_))); (case side2 => exact HC0.out); rintro e w12 ⟨rfl, hb⟩; refine ⟨_, rfl, ?_⟩; have n0_ := Aside0.mk (below_step (by repeat (first | (with_reducible first | exact HB.out | apply below_alloc | apply pw_below_drewN | apply below_drew1) | exact HB.out)) hb); clear HB; have HB := n0_; clear n0_; (try clear hb); (try clear hb2); (try clear hk); (try clear hi); (try simp only [errW_none, errW_some])) | ((with_reducible refine gate_dst (N := 43) rfl ?_); (try (refine gate_guard (by rfl) ?_; dsimp only)); refine Kd.R_make (Kd.int .i64) _ 3 rfl (N := 43) rfl 23 _ _ rfl (l0.length : Int) rfl rfl Try.underlying23 (.int .i64 0) 8 info3 rfl (by decide) (by omega) 0 (ok := fun _ => True) (okp := fun _ => True) rfl (fun _ hk => hk) trivial (of_decide_eq_true (by first | (with_reducible assumption) | assumption)) (Nat.le_trans (Nat.mul_le_mul_right _ (of_decide_eq_true (by first | (with_reducible assumption) | assumption) : (l0.length : Int).toNat ≤ 35184372088832)) (by omega)) (Below.refl _ _) (Nat.le_refl _) ?_; intro v131 w13 ho14 hb hg_ hnew_; clear hg_ hnew_; (first | rw [← Ny130.out] at ho14 | (simp only [Int.reduceToNat] at ho14; rw [← Ny130.out] at ho14)); have n0_ := Aside0.mk (Kd.R_lower ho14 (below_size (by repeat (first | (with_reducible first | exact HB.out | apply below_alloc | apply pw_below_drewN | apply below_drew1) | exact HB.out)))); have n1_ := Aside0.mk (below_step (by repeat (first | (with_reducible first | exact HB.out | apply below_alloc | apply pw_below_drewN | apply below_drew1) | exact HB.out)) hb); clear HB; have HO132 := n0_; have HB := n1_; clear n0_ n1_; clear hb ho14))
        go_loopg [46] k1 (fun kq v46 w' => ∃ (x9_2 : List Int) (x46_2 : Int), v46 = .int .i64 x46_2 ∧ Aside0 (edf_Missed.l1 kq l1 x9_2 l0 (l0.length : Int) x46_2 = some (r1, r2)) ∧ Aside0 (kq ≤ k1) ∧ Aside0 (Kd.R (Kd.int .i64) 3 w' w.heap.size (fun _ => True) v131 x9_2) ∧ Aside0 (Below w.heap.size w w'))
        case atStart => exact ⟨(y130), (0), (by first | rfl | (simp; done) | (simp [*]; done)), H', ⟨Nat.le_refl _⟩, ⟨by (with_reducible repeat (first | apply Kd.R_alloc | apply Kd.R_drewN | apply Kd.R_drew)); exact HO132.out⟩, ⟨by repeat (first | (with_reducible first | exact HB.out | apply below_alloc | apply pw_below_drewN | apply below_drew1) | exact HB.out)⟩⟩
        case round =>
         clear H'
         try clear c1
         try clear p1
         try clear q1
         try clear hx1
         try clear c2
         try clear p2
         try clear c3
         try clear c3b0
         try clear c3b1
         try clear c4
         try clear c4b0
         try clear c5
         try clear c5b0
         try clear c6
         try clear c6b0
         try clear p6
         try clear c7
         try clear c7b0
         try clear c8
         try clear c8b0
         try clear c10
         try clear c10b0
         try clear c10b1
         try clear c11
         try clear c11b0
         try clear c11b1
         try clear p12
         try clear q12
         try clear hx12
         try clear hx127_0
         try clear p127
         try clear p2
         try clear q127
         try clear q129
         obtain ⟨x9_2, x46_2, rfl, HA, HK2, HO_9, HB⟩ := hrel
         cases gk with
         | zero => exact absurd HA.out (by simp [edf_Missed.l1])
         | succ k2 =>
          have H := HA.out
          clear HA
          simp only [edf_Missed.l1] at H
          by_cases c15 : x46_2 < (l0.length : Int)
          ·rw [if_pos c15] at H
           have c15b0 : decide (x46_2 < (l0.length : Int)) = true := decide_eq_true c15
           clear c15
           by_cases c16 : 0 ≤ x46_2
           ·rw [if_pos c16] at H
            have c16b0 : decide (0 ≤ x46_2) = true := decide_eq_true c16
            clear c16
            by_cases c17 : x46_2 < (l0.length : Int)
            ·rw [if_pos c17] at H
             have c17b0 : decide (x46_2 < (l0.length : Int)) = true := decide_eq_true c17
             clear c17
             have H' := Aside0.mk H
             clear H
             have p133 : 0 ≤ (x46_2 : Int) := of_decide_eq_true (by first | (with_reducible assumption) | assumption)
             have q133 : x46_2 < (l0.length : Int) := of_decide_eq_true (by first | (with_reducible assumption) | assumption)
             obtain ⟨ad133, e133, hx133_0, hx133_1, hx133_2⟩ := at_T55 HR0.out x46_2 p133 q133
             cases e133
             replace hx133_0 := (HB.out.cell (World.block_lt_of_cell? w _ hx133_0)).trans hx133_0
             replace hx133_1 := (HB.out.cell (World.block_lt_of_cell? w _ hx133_1)).trans hx133_1
             replace hx133_2 := (HB.out.cell (World.block_lt_of_cell? w _ hx133_2)).trans hx133_2
             replace p133 := eq_true p133
             replace q133 := eq_true q133
             go_wp2_with (first | ((with_reducible refine gate_dst (N := 11) rfl ?_); (try (refine gate_guard (by rfl) ?_; dsimp only)); refine box_event ?hg (N := 11) ?hd (cs := #[.int .i64 0, .int .i64 0, .int .i64 0]) (t := 55) ?hr ?_; (case hd => rfl); (case hg => rfl); (case hr => first | (go_simp; done) | (go_simp; rfl)); intro gb134 hg w18 hbox hb; have n0_ := Aside0.mk (Kd.R_below (by (with_reducible repeat (first | apply Kd.R_alloc | apply Kd.R_drewN | apply Kd.R_drew)); exact HO_9.out) hb); have n1_ := Aside0.mk (below_step (by repeat (first | (with_reducible first | exact HB.out | apply below_alloc | apply pw_below_drewN | apply below_drew1) | exact HB.out)) hb); have n2_ := Aside0.mk (hbox); have n3_ := Aside0.mk ((by rw [hg]; exact (below_size (by repeat (first | (with_reducible first | exact HB.out | apply below_alloc | apply pw_below_drewN | apply below_drew1) | exact HB.out))) : w.heap.size ≤ gb134)); have n4_ := Aside0.mk ((by rw [hg]; exact (below_size (by repeat (first | (with_reducible first | exact HB.out | apply below_alloc | apply pw_below_drewN | apply below_drew1) | exact HB.out))) : w.heap.size ≤ gb134)); clear HO_9; clear HB; have HO_9 := n0_; have HB := n1_; have BK134 := n2_; have GW134 := n3_; have GE134 := n4_; clear n0_ n1_ n2_ n3_ n4_; clear hb hbox hg; have hcz19_0 : w18.cell? ⟨gb134, 0, none⟩ = some (.int .i64 0) := (blk_cell BK134.out 0).trans (by rfl); have hcz19_1 : w18.cell? ⟨gb134, 1, none⟩ = some (.int .i64 0) := (blk_cell BK134.out 1).trans (by rfl); have hcz19_2 : w18.cell? ⟨gb134, 2, none⟩ = some (.int .i64 0) := (blk_cell BK134.out 2).trans (by rfl); have hfz19_0 := blk_frozen BK134.out 0; have hfz19_1 := blk_frozen BK134.out 1; have hfz19_2 := blk_frozen BK134.out 2))
             go_loopg [12] k2 (fun kq v12 w' => ∃ (x9_3 : List Int) (x12_3 : Int), v12 = .int .i64 x12_3 ∧ Aside0 (edf_Missed.l2 kq l1 x9_3 x46_2 x12_3 l0 (l0.length : Int) x46_2 ((rd_T55 l0 x46_2).f0) ((rd_T55 l0 x46_2).f1) ((rd_T55 l0 x46_2).f2) = some (r1, r2)) ∧ Aside0 (kq ≤ k2) ∧ Aside0 (Kd.R (Kd.int .i64) 3 w' w.heap.size (fun _ => True) v131 x9_3) ∧ Aside0 (w'.heap[gb134]? = some (.cells #[.int .i64 ((rd_T55 l0 x46_2).f0), .int .i64 ((rd_T55 l0 x46_2).f1), .int .i64 ((rd_T55 l0 x46_2).f2)] 55 (0, 0))) ∧ Aside0 (Below w.heap.size w w'))
             case atStart => exact ⟨(x9_2), ((rd_T55 l0 x46_2).f2), (by first | rfl | (simp; done) | (simp [*]; done)), H', ⟨Nat.le_refl _⟩, ⟨by (with_reducible repeat (first | apply Kd.R_alloc | apply Kd.R_drewN | apply Kd.R_drew)); exact Kd.R_mono (Kd.R_far (p := ⟨gb134, 2, none⟩) (Kd.R_far (p := ⟨gb134, 1, none⟩) (Kd.R_far (p := ⟨gb134, 0, none⟩) (Kd.R_types HO_9.out BK134.out (by decide)) (fun _ hk => hk.2) (.int .i64 ((rd_T55 l0 x46_2).f0))) (fun _ hk => hk.2) (.int .i64 ((rd_T55 l0 x46_2).f1))) (fun _ hk => hk.2) (.int .i64 ((rd_T55 l0 x46_2).f2))) (fun _ hk => trivial)⟩, ⟨by (with_reducible repeat (first | refine blk_drewN ?_ _ | refine blk_drew ?_ | refine blk_alloc ?_ _)); refine blk_put (cs := #[.int .i64 ((rd_T55 l0 x46_2).f0), .int .i64 ((rd_T55 l0 x46_2).f1), .int .i64 0]) ?_ 2 _ rfl; (with_reducible repeat (first | refine blk_drewN ?_ _ | refine blk_drew ?_ | refine blk_alloc ?_ _)); refine blk_put (cs := #[.int .i64 ((rd_T55 l0 x46_2).f0), .int .i64 0, .int .i64 0]) ?_ 1 _ rfl; (with_reducible repeat (first | refine blk_drewN ?_ _ | refine blk_drew ?_ | refine blk_alloc ?_ _)); refine blk_put (cs := #[.int .i64 0, .int .i64 0, .int .i64 0]) ?_ 0 _ rfl; (with_reducible repeat (first | refine blk_drewN ?_ _ | refine blk_drew ?_ | refine blk_alloc ?_ _)); exact BK134.out⟩, ⟨by repeat (first | (with_reducible first | exact HB.out | apply below_alloc | apply pw_below_drewN | apply below_drew1 | refine below_set ?_ GE134.out) | exact HB.out)⟩⟩
             case round =>
              clear H'
              try clear c1
              try clear p1
              try clear q1
              try clear hx1
              try clear c2
              try clear p2
              try clear c3
              try clear c3b0
              try clear c3b1
              try clear c4
              try clear c4b0
              try clear c5
              try clear c5b0
              try clear c6
              try clear c6b0
              try clear p6
              try clear c7
              try clear c7b0
              try clear c8
              try clear c8b0
              try clear c10
              try clear c10b0
              try clear c10b1
              try clear c11
              try clear c11b0
              try clear c11b1
              try clear p12
              try clear q12
              try clear hx12
              try clear p13
              try clear q13
              try clear hx13
              try clear c15
              try clear c15b0
              try clear c16
              try clear c16b0
              try clear c17
              try clear c17b0
              try clear hcz19_0
              try clear hcz19_1
              try clear hcz19_2
              try clear hfz19_0
              try clear hfz19_1
              try clear hfz19_2
              try clear hx127_0
              try clear hx133_0
              try clear hx133_1
              try clear hx133_2
              try clear p1
              try clear p12
              try clear p127
              try clear p133
              try clear p2
              try clear p6
              try clear q1
              try clear q12
              try clear q127
              try clear q129
              try clear q133
              obtain ⟨x9_3, x12_3, rfl, HA, HK3, HO_9, BK134, HB⟩ := hrel
              cases gk with
              | zero => exact absurd HA.out (by simp [edf_Missed.l2])
              | succ k3 =>
               have H := HA.out
               clear HA
               simp only [edf_Missed.l2] at H
               by_cases c20 : (wrap64 (x12_3 + ((rd_T55 l0 x46_2).f1))) ≤ (l1.length : Int)
               ·rw [if_pos c20] at H
                have c20b0 : decide ((wrap64 (x12_3 + ((rd_T55 l0 x46_2).f1))) ≤ (l1.length : Int)) = true := decide_eq_true c20
                clear c20
                by_cases c21 : 0 ≤ x12_3
                ·rw [if_pos c21] at H
                 have c21b0 := eq_true c21
                 have c21b1 : decide (0 ≤ x12_3) = true := decide_eq_true c21
                 clear c21
                 by_cases c22 : x12_3 ≤ (wrap64 (x12_3 + ((rd_T55 l0 x46_2).f1)))
                 ·rw [if_pos c22] at H
                  have c22b0 := eq_true c22
                  have c22b1 : decide (x12_3 ≤ (wrap64 (x12_3 + ((rd_T55 l0 x46_2).f1)))) = true := decide_eq_true c22
                  have c23b0 := eq_true (of_decide_eq_true (by first | (with_reducible assumption) | assumption) : (wrap64 (x12_3 + ((rd_T55 l0 x46_2).f1))) ≤ (l1.length : Int))
                  have H' := Aside0.mk H
                  clear H
                  have hcz24_0 : wr.cell? ⟨gb134, 0, none⟩ = some (.int .i64 ((rd_T55 l0 x46_2).f0)) := (blk_cell BK134.out 0).trans (by rfl)
                  have hcz24_1 : wr.cell? ⟨gb134, 1, none⟩ = some (.int .i64 ((rd_T55 l0 x46_2).f1)) := (blk_cell BK134.out 1).trans (by rfl)
                  have hcz24_2 : wr.cell? ⟨gb134, 2, none⟩ = some (.int .i64 ((rd_T55 l0 x46_2).f2)) := (blk_cell BK134.out 2).trans (by rfl)
                  have hfz24_0 := blk_frozen BK134.out 0
                  have hfz24_1 := blk_frozen BK134.out 1
                  have hfz24_2 := blk_frozen BK134.out 2
                  obtain ⟨i025, hi025, _, hsz25, _⟩ := info_parts info3
                  obtain ⟨A25, hcut25, hA25, hC25⟩ := print_mid_of (P := Try.prog) (Value.int .i64) 0 23 3 .i64 .i64 Try.underlying23 hi025 hsz25 A1 c1 l1 x12_3 (wrap64 (x12_3 + ((rd_T55 l0 x46_2).f1))) (of_decide_eq_true (by first | (with_reducible assumption) | assumption)) (by first | omega | exact of_decide_eq_true (by first | (with_reducible assumption) | assumption)) (of_decide_eq_true (by first | (with_reducible assumption) | assumption)) HC1.out
                  have hLP25 := Aside0.mk (show ((l1.take ((wrap64 (x12_3 + ((rd_T55 l0 x46_2).f1))) : Int).toNat).drop (x12_3 : Int).toNat).length = ((wrap64 (x12_3 + ((rd_T55 l0 x46_2).f1))) : Int).toNat - (x12_3 : Int).toNat from by have h_ : (wrap64 (x12_3 + ((rd_T55 l0 x46_2).f1))) ≤ (l1.length : Int) := (of_decide_eq_true (by first | (with_reducible assumption) | assumption)); rw [List.length_drop, List.length_take]; omega)
                  have HR135 := Aside0.mk (Kd.C_of_reads (h1 := fun _ => rfl) (hA25 _ (Kd.reads_of_C HR1.out)))
                  have HC135 := Aside0.mk hC25
                  clear hA25 hC25 hi025 hsz25
                  go_wp2
                  go_loopg [13, 72] k3 (fun kq v13 v72 w' => ∃ (x13_4 : Int) (x72_4 : Int), v13 = .int .i64 x13_4 ∧ v72 = .int .i64 x72_4 ∧ Aside0 (edf_Missed.l3 kq l1 x9_3 x46_2 x12_3 x13_4 l0 (l0.length : Int) x46_2 ((l1.take ((wrap64 (x12_3 + ((rd_T55 l0 x46_2).f1))) : Int).toNat).drop (x12_3 : Int).toNat) (((l1.take ((wrap64 (x12_3 + ((rd_T55 l0 x46_2).f1))) : Int).toNat).drop (x12_3 : Int).toNat).length : Int) x72_4 ((rd_T55 l0 x46_2).f0) ((rd_T55 l0 x46_2).f1) ((rd_T55 l0 x46_2).f2) = some (r1, r2)) ∧ Aside0 (kq ≤ k3) ∧ Aside0 (Kd.R (Kd.int .i64) 3 w' w.heap.size (fun _ => True) v131 x9_3) ∧ Aside0 (w'.heap[gb134]? = some (.cells #[.int .i64 ((rd_T55 l0 x46_2).f0), .int .i64 ((rd_T55 l0 x46_2).f1), .int .i64 ((rd_T55 l0 x46_2).f2)] 55 (0, 0))) ∧ Aside0 (Below w.heap.size w w'))
                  case atStart => exact ⟨(0), (0), (by first | rfl | (simp; done) | (simp [*]; done)), (by first | rfl | (simp; done) | (simp [*]; done)), H', ⟨Nat.le_refl _⟩, ⟨by (with_reducible repeat (first | apply Kd.R_alloc | apply Kd.R_drewN | apply Kd.R_drew)); exact HO_9.out⟩, ⟨by (with_reducible repeat (first | refine blk_drewN ?_ _ | refine blk_drew ?_ | refine blk_alloc ?_ _)); exact BK134.out⟩, ⟨by repeat (first | (with_reducible first | exact HB.out | apply below_alloc | apply pw_below_drewN | apply below_drew1 | refine below_set ?_ GE134.out) | exact HB.out)⟩⟩
                  case round =>
                   clear H'
                   try clear c1
                   try clear p1
                   try clear q1
                   try clear hx1
                   try clear c2
                   try clear p2
                   try clear c3
                   try clear c3b0
                   try clear c3b1
                   try clear c4
                   try clear c4b0
                   try clear c5
                   try clear c5b0
                   try clear c6
                   try clear c6b0
                   try clear p6
                   try clear c7
                   try clear c7b0
                   try clear c8
                   try clear c8b0
                   try clear c10
                   try clear c10b0
                   try clear c10b1
                   try clear c11
                   try clear c11b0
                   try clear c11b1
                   try clear p12
                   try clear q12
                   try clear hx12
                   try clear p13
                   try clear q13
                   try clear hx13
                   try clear c15
                   try clear c15b0
                   try clear c16
                   try clear c16b0
                   try clear c17
                   try clear c17b0
                   try clear c20
                   try clear c20b0
                   try clear c21
                   try clear c21b0
                   try clear c21b1
                   try clear c22
                   try clear c22b0
                   try clear c22b1
                   try clear c23
                   try clear c23b0
                   try clear hcz19_0
                   try clear hcz19_1
                   try clear hcz19_2
                   try clear hcz24_0
                   try clear hcz24_1
                   try clear hcz24_2
                   try clear hfz19_0
                   try clear hfz19_1
                   try clear hfz19_2
                   try clear hfz24_0
                   try clear hfz24_1
                   try clear hfz24_2
                   try clear hx127_0
                   try clear hx133_0
                   try clear hx133_1
                   try clear hx133_2
                   try clear p1
                   try clear p12
                   try clear p127
                   try clear p13
                   try clear p133
                   try clear p2
                   try clear p6
                   try clear q1
                   try clear q12
                   try clear q127
                   try clear q129
                   try clear q13
                   try clear q133
                   obtain ⟨x13_4, x72_4, rfl, rfl, HA, HK4, HO_9, BK134, HB⟩ := hrel
                   cases gk with
                   | zero => exact absurd HA.out (by simp [edf_Missed.l3])
                   | succ k4 =>
                    have H := HA.out
                    clear HA
                    simp only [edf_Missed.l3] at H
                    by_cases c26 : x72_4 < (((l1.take ((wrap64 (x12_3 + ((rd_T55 l0 x46_2).f1))) : Int).toNat).drop (x12_3 : Int).toNat).length : Int)
                    ·rw [if_pos c26] at H
                     have c26b0 : decide (x72_4 < (((l1.take ((wrap64 (x12_3 + ((rd_T55 l0 x46_2).f1))) : Int).toNat).drop (x12_3 : Int).toNat).length : Int)) = true := decide_eq_true c26
                     have c26b8 : decide (x72_4 < (((((wrap64 (x12_3 + ((rd_T55 l0 x46_2).f1))) : Int).toNat - (x12_3 : Int).toNat : Nat)) : Int)) = true := (congrArg (fun n_ : Nat => decide (x72_4 < (n_ : Int))) hLP25.out.symm).trans c26b0
                     clear c26
                     by_cases c27 : 0 ≤ x72_4
                     ·rw [if_pos c27] at H
                      have c27b0 : decide (0 ≤ x72_4) = true := decide_eq_true c27
                      clear c27
                      by_cases c28 : x72_4 < (((l1.take ((wrap64 (x12_3 + ((rd_T55 l0 x46_2).f1))) : Int).toNat).drop (x12_3 : Int).toNat).length : Int)
                      ·rw [if_pos c28] at H
                       have c28b0 : decide (x72_4 < (((l1.take ((wrap64 (x12_3 + ((rd_T55 l0 x46_2).f1))) : Int).toNat).drop (x12_3 : Int).toNat).length : Int)) = true := decide_eq_true c28
                       have c28b8 : decide (x72_4 < (((((wrap64 (x12_3 + ((rd_T55 l0 x46_2).f1))) : Int).toNat - (x12_3 : Int).toNat : Nat)) : Int)) = true := (congrArg (fun n_ : Nat => decide (x72_4 < (n_ : Int))) hLP25.out.symm).trans c28b0
                       clear c28
                       by_cases c29 : (rd ((l1.take ((wrap64 (x12_3 + ((rd_T55 l0 x46_2).f1))) : Int).toNat).drop (x12_3 : Int).toNat) x72_4) = x46_2
                       ·rw [if_pos c29] at H
                        have c29b0 : ((rd ((l1.take ((wrap64 (x12_3 + ((rd_T55 l0 x46_2).f1))) : Int).toNat).drop (x12_3 : Int).toNat) x72_4) == x46_2) = true := beq_iff_eq.mpr c29
                        have c29b1 : ((rd ((l1.take ((wrap64 (x12_3 + ((rd_T55 l0 x46_2).f1))) : Int).toNat).drop (x12_3 : Int).toNat) x72_4) != x46_2) = false := bne_eq_false_iff_eq.mpr c29
                        clear c29
                        have H' := Aside0.mk H
                        clear H
                        have p136 : 0 ≤ (x72_4 : Int) := of_decide_eq_true (by first | (with_reducible assumption) | assumption)
                        have q136 : x72_4 < (((l1.take ((wrap64 (x12_3 + ((rd_T55 l0 x46_2).f1))) : Int).toNat).drop (x12_3 : Int).toNat).length : Int) := of_decide_eq_true (by first | (with_reducible assumption) | assumption)
                        have q136b : (x72_4 < (((((wrap64 (x12_3 + ((rd_T55 l0 x46_2).f1))) : Int).toNat - (x12_3 : Int).toNat : Nat)) : Int)) = True := eq_true (by have h_ := q136; rw [hLP25.out] at h_; exact h_)
                        obtain ⟨ad136, e136, hx136_0⟩ := Kd.at_int HR135.out x72_4 p136 q136
                        cases e136
                        replace hx136_0 := (HB.out.cell (World.block_lt_of_cell? w _ hx136_0)).trans hx136_0
                        replace p136 := eq_true p136
                        replace q136 := eq_true q136
                        go_wp2
                        go_roundg k4
                        case measure => have := HK1.out; have := HK2.out; have := HK3.out; have := HK4.out; omega
                        case rel => exact ⟨(wrap64 (x13_4 + 1)), (wrap64 (x72_4 + 1)), (by first | rfl | (simp; done) | (simp [*]; done)), (by first | rfl | (simp; done) | (simp [*]; done)), H', ⟨by have := HK1.out; have := HK2.out; have := HK3.out; have := HK4.out; omega⟩, ⟨by (with_reducible repeat (first | apply Kd.R_alloc | apply Kd.R_drewN | apply Kd.R_drew)); exact HO_9.out⟩, ⟨by (with_reducible repeat (first | refine blk_drewN ?_ _ | refine blk_drew ?_ | refine blk_alloc ?_ _)); exact BK134.out⟩, ⟨by repeat (first | (with_reducible first | exact HB.out | apply below_alloc | apply pw_below_drewN | apply below_drew1 | refine below_set ?_ GE134.out) | exact HB.out)⟩⟩
                       ·rw [if_neg c29] at H
                        have c29b0 : ((rd ((l1.take ((wrap64 (x12_3 + ((rd_T55 l0 x46_2).f1))) : Int).toNat).drop (x12_3 : Int).toNat) x72_4) == x46_2) = false := beq_eq_false_iff_ne.mpr c29
                        have c29b1 : ((rd ((l1.take ((wrap64 (x12_3 + ((rd_T55 l0 x46_2).f1))) : Int).toNat).drop (x12_3 : Int).toNat) x72_4) != x46_2) = true := bne_iff_ne.mpr c29
                        have H' := Aside0.mk H
                        clear H
                        have p136 : 0 ≤ (x72_4 : Int) := of_decide_eq_true (by first | (with_reducible assumption) | assumption)
                        have q136 : x72_4 < (((l1.take ((wrap64 (x12_3 + ((rd_T55 l0 x46_2).f1))) : Int).toNat).drop (x12_3 : Int).toNat).length : Int) := of_decide_eq_true (by first | (with_reducible assumption) | assumption)
                        have q136b : (x72_4 < (((((wrap64 (x12_3 + ((rd_T55 l0 x46_2).f1))) : Int).toNat - (x12_3 : Int).toNat : Nat)) : Int)) = True := eq_true (by have h_ := q136; rw [hLP25.out] at h_; exact h_)
                        obtain ⟨ad136, e136, hx136_0⟩ := Kd.at_int HR135.out x72_4 p136 q136
                        cases e136
                        replace hx136_0 := (HB.out.cell (World.block_lt_of_cell? w _ hx136_0)).trans hx136_0
                        replace p136 := eq_true p136
                        replace q136 := eq_true q136
                        go_wp2
                        go_roundg k4
                        case measure => have := HK1.out; have := HK2.out; have := HK3.out; have := HK4.out; omega
                        case rel => exact ⟨(x13_4), (wrap64 (x72_4 + 1)), (by first | rfl | (simp; done) | (simp [*]; done)), (by first | rfl | (simp; done) | (simp [*]; done)), H', ⟨by have := HK1.out; have := HK2.out; have := HK3.out; have := HK4.out; omega⟩, ⟨by (with_reducible repeat (first | apply Kd.R_alloc | apply Kd.R_drewN | apply Kd.R_drew)); exact HO_9.out⟩, ⟨by (with_reducible repeat (first | refine blk_drewN ?_ _ | refine blk_drew ?_ | refine blk_alloc ?_ _)); exact BK134.out⟩, ⟨by repeat (first | (with_reducible first | exact HB.out | apply below_alloc | apply pw_below_drewN | apply below_drew1 | refine below_set ?_ GE134.out) | exact HB.out)⟩⟩
                      ·rw [if_neg c28] at H
                       exact absurd H (by simp)
                     ·rw [if_neg c27] at H
                      exact absurd H (by simp)
                    ·rw [if_neg c26] at H
                     have c26b0 : decide (x72_4 < (((l1.take ((wrap64 (x12_3 + ((rd_T55 l0 x46_2).f1))) : Int).toNat).drop (x12_3 : Int).toNat).length : Int)) = false := decide_eq_false c26
                     have c26b8 : decide (x72_4 < (((((wrap64 (x12_3 + ((rd_T55 l0 x46_2).f1))) : Int).toNat - (x12_3 : Int).toNat : Nat)) : Int)) = false := (congrArg (fun n_ : Nat => decide (x72_4 < (n_ : Int))) hLP25.out.symm).trans c26b0
                     clear c26
                     by_cases c30 : x13_4 < ((rd_T55 l0 x46_2).f0)
                     ·rw [if_pos c30] at H
                      have c30b0 : decide (x13_4 < ((rd_T55 l0 x46_2).f0)) = true := decide_eq_true c30
                      clear c30
                      by_cases c31 : 0 ≤ x46_2
                      ·rw [if_pos c31] at H
                       have c31b0 : decide (0 ≤ x46_2) = true := decide_eq_true c31
                       clear c31
                       by_cases c32 : x46_2 < (x9_3.length : Int)
                       ·rw [if_pos c32] at H
                        have c32b0 : decide (x46_2 < (x9_3.length : Int)) = true := decide_eq_true c32
                        clear c32
                        obtain ⟨y138, hy138⟩ : ∃ y_ : List Int, y_ = (x9_3.set (x46_2 : Int).toNat (wrap64 ((rd x9_3 x46_2) + 1))) := ⟨_, rfl⟩
                        replace H : (edf_Missed.l2 k4 l1 y138 x46_2 (wrap64 (x12_3 + ((rd_T55 l0 x46_2).f1))) l0 (l0.length : Int) x46_2 ((rd_T55 l0 x46_2).f0) ((rd_T55 l0 x46_2).f1) ((rd_T55 l0 x46_2).f2)) = some (r1, r2) := by first | (rw [hy138]; with_reducible exact H) | (have H2_ := (Option.bind_some _ _).symm.trans H; rw [hy138]; with_reducible exact H2_) | (have H2_ := (Option.bind_some _ _).symm.trans H; with_reducible exact H2_) | with_reducible exact H | (rw [hy138]; exact H) | exact H
                        have Ny138 := Aside0.mk hy138
                        clear hy138
                        have H' := Aside0.mk H
                        clear H
                        have hcz34_0 : wr.cell? ⟨gb134, 0, none⟩ = some (.int .i64 ((rd_T55 l0 x46_2).f0)) := (blk_cell BK134.out 0).trans (by rfl)
                        have hcz34_1 : wr.cell? ⟨gb134, 1, none⟩ = some (.int .i64 ((rd_T55 l0 x46_2).f1)) := (blk_cell BK134.out 1).trans (by rfl)
                        have hcz34_2 : wr.cell? ⟨gb134, 2, none⟩ = some (.int .i64 ((rd_T55 l0 x46_2).f2)) := (blk_cell BK134.out 2).trans (by rfl)
                        have hfz34_0 := blk_frozen BK134.out 0
                        have hfz34_1 := blk_frozen BK134.out 1
                        have hfz34_2 := blk_frozen BK134.out 2
                        obtain ⟨Ao35, co35, eo35⟩ := Kd.R_slice HO_9.out
                        subst eo35
                        have p137 : 0 ≤ (x46_2 : Int) := of_decide_eq_true (by first | (with_reducible assumption) | assumption)
                        have q137 : x46_2 < (x9_3.length : Int) := of_decide_eq_true (by first | (with_reducible assumption) | assumption)
                        obtain ⟨ad137, e137, hx137_0⟩ := Kd.at_int (Kd.R_reads' HO_9.out).2.2 x46_2 p137 q137
                        cases e137
                        replace p137 := eq_true p137
                        replace q137 := eq_true q137
                        have p33 : 0 ≤ (x46_2 : Int) := of_decide_eq_true (by first | (with_reducible assumption) | assumption)
                        have q33 : (x46_2 : Int) < ((x9_3.length : Int) : Int) := of_decide_eq_true (by first | (with_reducible assumption) | assumption)
                        obtain ⟨go33, co33, eo33, gb33, gl33, cl33, HG33⟩ := Kd.R_form HO_9.out (by omega)
                        (first | cases eo33 | (injection eo33 with ea_ en_ ec_; (first | subst ea_ | (injection ea_ with ea_; subst ea_)); subst ec_; clear en_))
                        have GB33 := Aside0.mk gb33
                        have GG33 := Aside0.mk HG33
                        clear gb33 gl33 HG33
                        (first | simp only [add_plain] at hx137_0 | skip)
                        obtain ⟨hx33_0, hf33_0⟩ := Kd.R_celln 0 HO_9.out (x46_2 : Int) p33 q33
                        replace p33 := eq_true p33
                        replace q33 := eq_true q33
                        have HP36 := Kd.R_putg HO_9.out (x46_2 : Int) (wrap64 ((rd x9_3 x46_2) + 1))
                        go_wp2_with (first | ((with_reducible refine gate_store (t := 3) (p := 91) rfl ?_); refine store_event (t := 3) (p := 91) (v := ?vo_w37) (w1 := (wr.setCell ⟨go33, (x46_2 : Int).toNat, none⟩ (.int .i64 (wrap64 ((rd x9_3 x46_2) + 1))))) ?hg ?ho ?hn ?hr ?_; (case ho => rfl); (case hg => rfl); (case hn => rfl); (case hr => first | (go_simp; done) | (go_simp; rfl)); intro w37 hw; have hg : wr.grownBy w37 (some go33) := (by rw [hw]; exact HP36.2); have hp_ : Kd.R (Kd.int .i64) 3 w37 w.heap.size (fun _ => True) (.slice (some ⟨go33, 0, none⟩) x9_3.length co35) y138 := (by rw [hw, Ny138.out]; exact HP36.1); clear HP36; have n0_ := Aside0.mk (hp_); have n1_ := Aside0.mk (blk_grown (g := gb134) (o := .cells #[.int .i64 ((rd_T55 l0 x46_2).f0), .int .i64 ((rd_T55 l0 x46_2).f1), .int .i64 ((rd_T55 l0 x46_2).f2)] 55 (0, 0)) (by (with_reducible repeat (first | refine blk_drewN ?_ _ | refine blk_drew ?_ | refine blk_alloc ?_ _)); exact BK134.out) hg (Kd.R_ne HO_9.out BK134.out (by decide))); have n2_ := Aside0.mk ((by rw [hw]; exact below_set (HB.out) GB33.out : Below w.heap.size w w37)); clear HO_9; clear BK134; clear HB; have HO_9 := n0_; have BK134 := n1_; have HB := n2_; clear n0_ n1_ n2_; clear hg hw hp_; have hcz38_0 : w37.cell? ⟨gb134, 0, none⟩ = some (.int .i64 ((rd_T55 l0 x46_2).f0)) := (blk_cell BK134.out 0).trans (by rfl); have hcz38_1 : w37.cell? ⟨gb134, 1, none⟩ = some (.int .i64 ((rd_T55 l0 x46_2).f1)) := (blk_cell BK134.out 1).trans (by rfl); have hcz38_2 : w37.cell? ⟨gb134, 2, none⟩ = some (.int .i64 ((rd_T55 l0 x46_2).f2)) := (blk_cell BK134.out 2).trans (by rfl); have hfz38_0 := blk_frozen BK134.out 0; have hfz38_1 := blk_frozen BK134.out 1; have hfz38_2 := blk_frozen BK134.out 2))
                        go_roundg k4
                        case measure => have := HK1.out; have := HK2.out; have := HK3.out; have := HK4.out; omega
                        case rel => exact ⟨(y138), (wrap64 (x12_3 + ((rd_T55 l0 x46_2).f1))), (by first | rfl | (simp; done) | (simp [*]; done)), H', ⟨by have := HK1.out; have := HK2.out; have := HK3.out; have := HK4.out; omega⟩, ⟨by (with_reducible repeat (first | apply Kd.R_alloc | apply Kd.R_drewN | apply Kd.R_drew)); exact HO_9.out⟩, ⟨by (with_reducible repeat (first | refine blk_drewN ?_ _ | refine blk_drew ?_ | refine blk_alloc ?_ _)); exact BK134.out⟩, ⟨by repeat (first | (with_reducible first | exact HB.out | apply below_alloc | apply pw_below_drewN | apply below_drew1 | refine below_set ?_ GE134.out) | exact HB.out)⟩⟩
                       ·rw [if_neg c32] at H
                        exact absurd H (by simp)
                      ·rw [if_neg c31] at H
                       exact absurd H (by simp)
                     ·rw [if_neg c30] at H
                      have c30b0 : decide (x13_4 < ((rd_T55 l0 x46_2).f0)) = false := decide_eq_false c30
                      clear c30
                      have H' := Aside0.mk H
                      clear H
                      have hcz39_0 : wr.cell? ⟨gb134, 0, none⟩ = some (.int .i64 ((rd_T55 l0 x46_2).f0)) := (blk_cell BK134.out 0).trans (by rfl)
                      have hcz39_1 : wr.cell? ⟨gb134, 1, none⟩ = some (.int .i64 ((rd_T55 l0 x46_2).f1)) := (blk_cell BK134.out 1).trans (by rfl)
                      have hcz39_2 : wr.cell? ⟨gb134, 2, none⟩ = some (.int .i64 ((rd_T55 l0 x46_2).f2)) := (blk_cell BK134.out 2).trans (by rfl)
                      have hfz39_0 := blk_frozen BK134.out 0
                      have hfz39_1 := blk_frozen BK134.out 1
                      have hfz39_2 := blk_frozen BK134.out 2
                      go_wp2
                      go_roundg k4
                      case measure => have := HK1.out; have := HK2.out; have := HK3.out; have := HK4.out; omega
                      case rel => exact ⟨(x9_3), (wrap64 (x12_3 + ((rd_T55 l0 x46_2).f1))), (by first | rfl | (simp; done) | (simp [*]; done)), H', ⟨by have := HK1.out; have := HK2.out; have := HK3.out; have := HK4.out; omega⟩, ⟨by (with_reducible repeat (first | apply Kd.R_alloc | apply Kd.R_drewN | apply Kd.R_drew)); exact HO_9.out⟩, ⟨by (with_reducible repeat (first | refine blk_drewN ?_ _ | refine blk_drew ?_ | refine blk_alloc ?_ _)); exact BK134.out⟩, ⟨by repeat (first | (with_reducible first | exact HB.out | apply below_alloc | apply pw_below_drewN | apply below_drew1 | refine below_set ?_ GE134.out) | exact HB.out)⟩⟩
                 ·rw [if_neg c22] at H
                  exact absurd H (by simp)
                ·rw [if_neg c21] at H
                 exact absurd H (by simp)
               ·rw [if_neg c20] at H
                have c20b0 : decide ((wrap64 (x12_3 + ((rd_T55 l0 x46_2).f1))) ≤ (l1.length : Int)) = false := decide_eq_false c20
                clear c20
                have H' := Aside0.mk H
                clear H
                have hcz40_0 : wr.cell? ⟨gb134, 0, none⟩ = some (.int .i64 ((rd_T55 l0 x46_2).f0)) := (blk_cell BK134.out 0).trans (by rfl)
                have hcz40_1 : wr.cell? ⟨gb134, 1, none⟩ = some (.int .i64 ((rd_T55 l0 x46_2).f1)) := (blk_cell BK134.out 1).trans (by rfl)
                have hcz40_2 : wr.cell? ⟨gb134, 2, none⟩ = some (.int .i64 ((rd_T55 l0 x46_2).f2)) := (blk_cell BK134.out 2).trans (by rfl)
                have hfz40_0 := blk_frozen BK134.out 0
                have hfz40_1 := blk_frozen BK134.out 1
                have hfz40_2 := blk_frozen BK134.out 2
                go_wp2
                go_roundg k3
                case measure => have := HK1.out; have := HK2.out; have := HK3.out; omega
                case rel => exact ⟨(x9_3), (wrap64 (x46_2 + 1)), (by first | rfl | (simp; done) | (simp [*]; done)), H', ⟨by have := HK1.out; have := HK2.out; have := HK3.out; omega⟩, ⟨by (with_reducible repeat (first | apply Kd.R_alloc | apply Kd.R_drewN | apply Kd.R_drew)); exact HO_9.out⟩, ⟨by repeat (first | (with_reducible first | exact HB.out | apply below_alloc | apply pw_below_drewN | apply below_drew1 | refine below_set ?_ GE134.out) | exact HB.out)⟩⟩
            ·rw [if_neg c17] at H
             exact absurd H (by simp)
           ·rw [if_neg c16] at H
            exact absurd H (by simp)
          ·rw [if_neg c15] at H
           have c15b0 : decide (x46_2 < (l0.length : Int)) = false := decide_eq_false c15
           clear c15
           simp only [Option.some.injEq, Prod.mk.injEq] at H
           obtain ⟨rfl, rfl⟩ := H
           go_wp2
           go_ret2
           exact ⟨_, by first | rfl | (simp [errW_none, errW_some] <;> rfl) | (simp [*, errW_none, errW_some] <;> rfl), by (with_reducible repeat (first | apply Kd.R_alloc | apply Kd.R_drewN | apply Kd.R_drew)); exact HO_9.out, by repeat (first | (with_reducible first | exact HB.out | apply below_alloc | apply pw_below_drewN | apply below_drew1) | exact HB.out)⟩
       ·rw [if_neg c11] at H
        exact absurd H (by simp)
      ·rw [if_neg c10] at H
       exact absurd H (by simp)
     ·have H1 : (some (([] : List Int), some q129)) = some (r1, r2) := by rw [if_neg (show ¬ (some q129).isNone = true by simp)] at H; exact H
      clear H
      have H := H1
      clear H1
      try simp only [errW_none, errW_some]
      simp only [Option.some.injEq, Prod.mk.injEq] at H
      obtain ⟨rfl, rfl⟩ := H
      go_wp2_with (first | ((with_reducible refine gate_callee (f := 17) rfl ?_); refine goesL_ (some 37) rfl rfl Try.func17 (by kernel_rfl) rfl #[.slice A0 l0.length c0] rfl (by (try simp only [List.map_toArray, List.map_cons, List.map_nil]); first | done | rfl | (simp only [List.length_drop, List.length_take]; rfl)) ?_; (with_reducible refine (edf_Valid.calls k1 _ _ l0 (some q129) _ ?side1 ?side2 A9.out).mono ?_); (case side1 => repeat (first | exact (Kd.C_below HR0.out HB.out) | (with_reducible refine Kd.C_alloc ?_ _) | (with_reducible refine Kd.C_drewN ?_ _) | (with_reducible refine Kd.C_drew ?_))); (case side2 => exact HC0.out); rintro e w41 ⟨rfl, hb⟩; refine ⟨_, rfl, ?_⟩; have n0_ := Aside0.mk (below_step (by repeat (first | (with_reducible first | exact HB.out | apply below_alloc | apply pw_below_drewN | apply below_drew1) | exact HB.out)) hb); clear HB; have HB := n0_; clear n0_; (try clear hb); (try clear hb2); (try clear hk); (try clear hi); (try simp only [errW_none, errW_some])))
      go_ret2
      exact ⟨_, by first | rfl | (simp [errW_none, errW_some] <;> rfl) | (simp [*, errW_none, errW_some] <;> rfl), by first | exact Kd.R_nil _ _ _ _ _ | exact Kd.N_nil _ _ _ _ _ | exact Kd.V_nil _ _ _ _ _ | exact Kd.Q_nil _ _ _ _ _ | exact Kd.S_nil _ _ _ _ _, by repeat (first | (with_reducible first | exact HB.out | apply below_alloc | apply pw_below_drewN | apply below_drew1) | exact HB.out)⟩

end Go.Proofs.YthhaikkicabplaaR.P
