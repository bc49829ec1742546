/- Proved here: what the machine does at calls of the functions that the laws reach is what plain functions of the same names say, or a row of the given statement out of that. No conditions. Written by a program of this session over the printer of the kit. -/
import Derived.Test.YtdonlmbhamcjdaaRRRHx0
import Derived.Test.YtdonlmbhamcjdaaRRRHx12
import Derived.Test.YtdonlmbhamcjdaaRRRHx13
namespace Go.Proofs.YtdonlmbhamcjdaaRRR.H
open Go.RowKit Go.Proofs.YtdonlmbhamcjdaaRRRW.PrintWords Go.Proofs.YtdonlmbhamcjdaaRRRW.PrintLast Go.Proofs.YtdonlmbhamcjdaaRRRW.PrintMore
attribute [local go_sem] max2_int min2_int max_two min_two max_three min_three max_four min_four   -- for this text's walks alone
set_option linter.unusedVariables false
set_option linter.unusedSimpArgs false

/-! ### titheref22_Play: function 43 -/
mutual
def titheref22_Play.j0 : Nat → List (S43) → List Int → List Bool → Bool → Option (List Int × Int)
 | 0, _, _, _, _ => none
 | k + 1, x0, x1, x2, x33 => if x33 = true then (some (([] : List Int), 1)) else (titheref22_Play.l0 k x0 x1 x2 0)
def titheref22_Play.l0 : Nat → List (S43) → List Int → List Bool → Int → Option (List Int × Int)
 | 0, _, _, _, _ => none
 | k + 1, x0, x1, x2, x9 => if x9 < (x1.length : Int) then (if 0 ≤ x9 then (if (rd x1 x9) < 0 then (some (([] : List Int), 1)) else (if (rd x1 x9) > 1073741824 then (some (([] : List Int), 1)) else (titheref22_Play.l0 k x0 x1 x2 (wrap64 (x9 + 1))))) else (none)) else ((titheref20_Order.f k x0).bind fun bt235 => (if 0 ≤ (x0.length : Int) then (if ((x0.length : Int) : Int).toNat ≤ 35184372088832 then (titheref22_Play.l1 k x0 x1 x2 bt235.1 (List.replicate ((x0.length : Int) : Int).toNat 0) (List.replicate ((x0.length : Int) : Int).toNat 0) (List.replicate ((x0.length : Int) : Int).toNat 0) 0) else (none)) else (none)))
def titheref22_Play.l1 : Nat → List (S43) → List Int → List Bool → List Int → List Int → List Int → List Int → Int → Option (List Int × Int)
 | 0, _, _, _, _, _, _, _, _ => none
 | k + 1, x0, x1, x2, x10, x12, x13, x14, x15 => if x15 < (x0.length : Int) then (if 0 ≤ x15 then (if x15 < (x1.length : Int) then (if x15 < (x13.length : Int) then (titheref22_Play.l1 k x0 x1 x2 x10 x12 (x13.set (x15 : Int).toNat (rd x1 x15)) x14 (wrap64 (x15 + 1))) else (none)) else (none)) else (none)) else (titheref22_Play.l2 k x0 x2 x10 x12 x13 x14 0)
def titheref22_Play.l2 : Nat → List (S43) → List Bool → List Int → List Int → List Int → List Int → Int → Option (List Int × Int)
 | 0, _, _, _, _, _, _, _ => none
 | k + 1, x0, x2, x10, x12, x13, x14, x16 => if x16 < (x2.length : Int) then (titheref22_Play.l3 k x0 x2 x10 x12 x13 x14 x16 0) else (some (x12, 0))
def titheref22_Play.l3 : Nat → List (S43) → List Bool → List Int → List Int → List Int → List Int → Int → Int → Option (List Int × Int)
 | 0, _, _, _, _, _, _, _, _ => none
 | k + 1, x0, x2, x10, x12, x13, x14, x16, x17 => if x17 < (x10.length : Int) then (if 0 ≤ x16 then (if x16 < (x2.length : Int) then (titheref22_Play.j5 k x0 x2 x10 x12 x13 x14 x16 x17 (rdOf false x2 x16)) else (none)) else (none)) else (titheref22_Play.j5 k x0 x2 x10 x12 x13 x14 x16 x17 false)
def titheref22_Play.j5 : Nat → List (S43) → List Bool → List Int → List Int → List Int → List Int → Int → Int → Bool → Option (List Int × Int)
 | 0, _, _, _, _, _, _, _, _, _ => none
 | k + 1, x0, x2, x10, x12, x13, x14, x16, x17, x94 => if x94 = true then (if 0 ≤ x17 then (if x17 < (x10.length : Int) then (if 0 ≤ (rd x10 x17) then (if (rd x10 x17) < (x13.length : Int) then (if (rd x13 (rd x10 x17)) > x16 then (titheref22_Play.l3 k x0 x2 x10 x12 x13 x14 x16 (wrap64 (x17 + 1))) else (if (rd x10 x17) < (x14.length : Int) then ((some (x14.set ((rd x10 x17) : Int).toNat (wrap64 ((rd x14 (rd x10 x17)) + 1)) : List Int)).bind fun y254 => (if (rd x10 x17) < (x0.length : Int) then (if (rd y254 (rd x10 x17)) = ((rd_T43 x0 (rd x10 x17)).f1) then (if (rd x10 x17) < (x12.length : Int) then (titheref22_Play.l2 k x0 x2 x10 (x12.set ((rd x10 x17) : Int).toNat (mx (rd x12 (rd x10 x17)) (wrap64 ((wrap64 (x16 + 1)) - (rd x13 (rd x10 x17)))))) (x13.set ((rd x10 x17) : Int).toNat (wrap64 ((rd x13 (rd x10 x17)) + ((rd_T43 x0 (rd x10 x17)).f0)))) (y254.set ((rd x10 x17) : Int).toNat 0) (wrap64 (x16 + 1))) else (none)) else (titheref22_Play.l2 k x0 x2 x10 x12 x13 y254 (wrap64 (x16 + 1)))) else (none))) else (none))) else (none)) else (none)) else (none)) else (none)) else (titheref22_Play.l2 k x0 x2 x10 x12 x13 x14 (wrap64 (x16 + 1)))
end
def titheref22_Play.f (k : Nat) (l0 : List (S43)) (l1 : List Int) (l2 : List Bool) : Option (List Int × Int) := (titheref20_Valid.f k l0).bind fun t232 => (if t232 = 0 then (if (l1.length : Int) = (l0.length : Int) then (titheref22_Play.j0 k l0 l1 l2 (decide ((l2.length : Int) > 4096))) else (titheref22_Play.j0 k l0 l1 l2 true)) else (some (([] : List Int), t232)))
theorem titheref22_Play.mono_l : ∀ k, (∀ y0 y1 y2 y3, LeO (titheref22_Play.j0 k y0 y1 y2 y3) (titheref22_Play.j0 (k + 1) y0 y1 y2 y3)) ∧ (∀ y0 y1 y2 y3, LeO (titheref22_Play.l0 k y0 y1 y2 y3) (titheref22_Play.l0 (k + 1) y0 y1 y2 y3)) ∧ (∀ y0 y1 y2 y3 y4 y5 y6 y7, LeO (titheref22_Play.l1 k y0 y1 y2 y3 y4 y5 y6 y7) (titheref22_Play.l1 (k + 1) y0 y1 y2 y3 y4 y5 y6 y7)) ∧ (∀ y0 y1 y2 y3 y4 y5 y6, LeO (titheref22_Play.l2 k y0 y1 y2 y3 y4 y5 y6) (titheref22_Play.l2 (k + 1) y0 y1 y2 y3 y4 y5 y6)) ∧ (∀ y0 y1 y2 y3 y4 y5 y6 y7, LeO (titheref22_Play.l3 k y0 y1 y2 y3 y4 y5 y6 y7) (titheref22_Play.l3 (k + 1) y0 y1 y2 y3 y4 y5 y6 y7)) ∧ (∀ y0 y1 y2 y3 y4 y5 y6 y7 y8, LeO (titheref22_Play.j5 k y0 y1 y2 y3 y4 y5 y6 y7 y8) (titheref22_Play.j5 (k + 1) y0 y1 y2 y3 y4 y5 y6 y7 y8))
 | 0 => ⟨fun _ _ _ _ r h => by simp [titheref22_Play.j0] at h, fun _ _ _ _ r h => by simp [titheref22_Play.l0] at h, fun _ _ _ _ _ _ _ _ r h => by simp [titheref22_Play.l1] at h, fun _ _ _ _ _ _ _ r h => by simp [titheref22_Play.l2] at h, fun _ _ _ _ _ _ _ _ r h => by simp [titheref22_Play.l3] at h, fun _ _ _ _ _ _ _ _ _ r h => by simp [titheref22_Play.j5] at h⟩
 | k + 1 => by
  obtain ⟨ih0, ih1, ih2, ih3, ih4, ih5⟩ := titheref22_Play.mono_l k
  refine ⟨?_, ?_, ?_, ?_, ?_, ?_⟩
  ·intro y0 y1 y2 y3
   unfold titheref22_Play.j0
   repeat' first
   | (with_reducible exact ih0 _ _ _ _)
   | (with_reducible exact ih1 _ _ _ _)
   | (with_reducible exact ih2 _ _ _ _ _ _ _ _)
   | (with_reducible exact ih3 _ _ _ _ _ _ _)
   | (with_reducible exact ih4 _ _ _ _ _ _ _ _)
   | (with_reducible exact ih5 _ _ _ _ _ _ _ _ _)
   | (with_reducible exact titheref20_Order.mono _ _)
   | (with_reducible exact titheref20_Valid.mono _ _)
   | (with_reducible exact LeO.refl _)
   | (with_reducible exact LeO.none _)
   | (with_reducible refine LeO.ite ?_ ?_)
   | (with_reducible refine LeO.bind ?_ (fun _ => ?_))
   | exact ih0 _ _ _ _
   | exact ih1 _ _ _ _
   | exact ih2 _ _ _ _ _ _ _ _
   | exact ih3 _ _ _ _ _ _ _
   | exact ih4 _ _ _ _ _ _ _ _
   | exact ih5 _ _ _ _ _ _ _ _ _
   | exact titheref20_Order.mono _ _
   | exact titheref20_Valid.mono _ _
   | exact LeO.none _
   | refine LeO.ite ?_ ?_
   | refine LeO.bind ?_ (fun _ => ?_)
  ·intro y0 y1 y2 y3
   unfold titheref22_Play.l0
   repeat' first
   | (with_reducible exact ih0 _ _ _ _)
   | (with_reducible exact ih1 _ _ _ _)
   | (with_reducible exact ih2 _ _ _ _ _ _ _ _)
   | (with_reducible exact ih3 _ _ _ _ _ _ _)
   | (with_reducible exact ih4 _ _ _ _ _ _ _ _)
   | (with_reducible exact ih5 _ _ _ _ _ _ _ _ _)
   | (with_reducible exact titheref20_Order.mono _ _)
   | (with_reducible exact titheref20_Valid.mono _ _)
   | (with_reducible exact LeO.refl _)
   | (with_reducible exact LeO.none _)
   | (with_reducible refine LeO.ite ?_ ?_)
   | (with_reducible refine LeO.bind ?_ (fun _ => ?_))
   | exact ih0 _ _ _ _
   | exact ih1 _ _ _ _
   | exact ih2 _ _ _ _ _ _ _ _
   | exact ih3 _ _ _ _ _ _ _
   | exact ih4 _ _ _ _ _ _ _ _
   | exact ih5 _ _ _ _ _ _ _ _ _
   | exact titheref20_Order.mono _ _
   | exact titheref20_Valid.mono _ _
   | exact LeO.none _
   | refine LeO.ite ?_ ?_
   | refine LeO.bind ?_ (fun _ => ?_)
  ·intro y0 y1 y2 y3 y4 y5 y6 y7
   unfold titheref22_Play.l1
   repeat' first
   | (with_reducible exact ih0 _ _ _ _)
   | (with_reducible exact ih1 _ _ _ _)
   | (with_reducible exact ih2 _ _ _ _ _ _ _ _)
   | (with_reducible exact ih3 _ _ _ _ _ _ _)
   | (with_reducible exact ih4 _ _ _ _ _ _ _ _)
   | (with_reducible exact ih5 _ _ _ _ _ _ _ _ _)
   | (with_reducible exact titheref20_Order.mono _ _)
   | (with_reducible exact titheref20_Valid.mono _ _)
   | (with_reducible exact LeO.refl _)
   | (with_reducible exact LeO.none _)
   | (with_reducible refine LeO.ite ?_ ?_)
   | (with_reducible refine LeO.bind ?_ (fun _ => ?_))
   | exact ih0 _ _ _ _
   | exact ih1 _ _ _ _
   | exact ih2 _ _ _ _ _ _ _ _
   | exact ih3 _ _ _ _ _ _ _
   | exact ih4 _ _ _ _ _ _ _ _
   | exact ih5 _ _ _ _ _ _ _ _ _
   | exact titheref20_Order.mono _ _
   | exact titheref20_Valid.mono _ _
   | exact LeO.none _
   | refine LeO.ite ?_ ?_
   | refine LeO.bind ?_ (fun _ => ?_)
  ·intro y0 y1 y2 y3 y4 y5 y6
   unfold titheref22_Play.l2
   repeat' first
   | (with_reducible exact ih0 _ _ _ _)
   | (with_reducible exact ih1 _ _ _ _)
   | (with_reducible exact ih2 _ _ _ _ _ _ _ _)
   | (with_reducible exact ih3 _ _ _ _ _ _ _)
   | (with_reducible exact ih4 _ _ _ _ _ _ _ _)
   | (with_reducible exact ih5 _ _ _ _ _ _ _ _ _)
   | (with_reducible exact titheref20_Order.mono _ _)
   | (with_reducible exact titheref20_Valid.mono _ _)
   | (with_reducible exact LeO.refl _)
   | (with_reducible exact LeO.none _)
   | (with_reducible refine LeO.ite ?_ ?_)
   | (with_reducible refine LeO.bind ?_ (fun _ => ?_))
   | exact ih0 _ _ _ _
   | exact ih1 _ _ _ _
   | exact ih2 _ _ _ _ _ _ _ _
   | exact ih3 _ _ _ _ _ _ _
   | exact ih4 _ _ _ _ _ _ _ _
   | exact ih5 _ _ _ _ _ _ _ _ _
   | exact titheref20_Order.mono _ _
   | exact titheref20_Valid.mono _ _
   | exact LeO.none _
   | refine LeO.ite ?_ ?_
   | refine LeO.bind ?_ (fun _ => ?_)
  ·intro y0 y1 y2 y3 y4 y5 y6 y7
   unfold titheref22_Play.l3
   repeat' first
   | (with_reducible exact ih0 _ _ _ _)
   | (with_reducible exact ih1 _ _ _ _)
   | (with_reducible exact ih2 _ _ _ _ _ _ _ _)
   | (with_reducible exact ih3 _ _ _ _ _ _ _)
   | (with_reducible exact ih4 _ _ _ _ _ _ _ _)
   | (with_reducible exact ih5 _ _ _ _ _ _ _ _ _)
   | (with_reducible exact titheref20_Order.mono _ _)
   | (with_reducible exact titheref20_Valid.mono _ _)
   | (with_reducible exact LeO.refl _)
   | (with_reducible exact LeO.none _)
   | (with_reducible refine LeO.ite ?_ ?_)
   | (with_reducible refine LeO.bind ?_ (fun _ => ?_))
   | exact ih0 _ _ _ _
   | exact ih1 _ _ _ _
   | exact ih2 _ _ _ _ _ _ _ _
   | exact ih3 _ _ _ _ _ _ _
   | exact ih4 _ _ _ _ _ _ _ _
   | exact ih5 _ _ _ _ _ _ _ _ _
   | exact titheref20_Order.mono _ _
   | exact titheref20_Valid.mono _ _
   | exact LeO.none _
   | refine LeO.ite ?_ ?_
   | refine LeO.bind ?_ (fun _ => ?_)
  ·intro y0 y1 y2 y3 y4 y5 y6 y7 y8
   unfold titheref22_Play.j5
   repeat' first
   | (with_reducible exact ih0 _ _ _ _)
   | (with_reducible exact ih1 _ _ _ _)
   | (with_reducible exact ih2 _ _ _ _ _ _ _ _)
   | (with_reducible exact ih3 _ _ _ _ _ _ _)
   | (with_reducible exact ih4 _ _ _ _ _ _ _ _)
   | (with_reducible exact ih5 _ _ _ _ _ _ _ _ _)
   | (with_reducible exact titheref20_Order.mono _ _)
   | (with_reducible exact titheref20_Valid.mono _ _)
   | (with_reducible exact LeO.refl _)
   | (with_reducible exact LeO.none _)
   | (with_reducible refine LeO.ite ?_ ?_)
   | (with_reducible refine LeO.bind ?_ (fun _ => ?_))
   | exact ih0 _ _ _ _
   | exact ih1 _ _ _ _
   | exact ih2 _ _ _ _ _ _ _ _
   | exact ih3 _ _ _ _ _ _ _
   | exact ih4 _ _ _ _ _ _ _ _
   | exact ih5 _ _ _ _ _ _ _ _ _
   | exact titheref20_Order.mono _ _
   | exact titheref20_Valid.mono _ _
   | exact LeO.none _
   | refine LeO.ite ?_ ?_
   | refine LeO.bind ?_ (fun _ => ?_)
theorem titheref22_Play.mono : ∀ a0 a1 a2 k, LeO (titheref22_Play.f k a0 a1 a2) (titheref22_Play.f (k + 1) a0 a1 a2) := by
 intro a0 a1 a2 k
 obtain ⟨ih0, ih1, ih2, ih3, ih4, ih5⟩ := titheref22_Play.mono_l k
 unfold titheref22_Play.f
 repeat' first
   | (with_reducible exact ih0 _ _ _ _)
   | (with_reducible exact ih1 _ _ _ _)
   | (with_reducible exact ih2 _ _ _ _ _ _ _ _)
   | (with_reducible exact ih3 _ _ _ _ _ _ _)
   | (with_reducible exact ih4 _ _ _ _ _ _ _ _)
   | (with_reducible exact ih5 _ _ _ _ _ _ _ _ _)
   | (with_reducible exact titheref20_Order.mono _ _)
   | (with_reducible exact titheref20_Valid.mono _ _)
   | (with_reducible exact LeO.refl _)
   | (with_reducible exact LeO.none _)
   | (with_reducible refine LeO.ite ?_ ?_)
   | (with_reducible refine LeO.bind ?_ (fun _ => ?_))
   | exact ih0 _ _ _ _
   | exact ih1 _ _ _ _
   | exact ih2 _ _ _ _ _ _ _ _
   | exact ih3 _ _ _ _ _ _ _
   | exact ih4 _ _ _ _ _ _ _ _
   | exact ih5 _ _ _ _ _ _ _ _ _
   | exact titheref20_Order.mono _ _
   | exact titheref20_Valid.mono _ _
   | exact LeO.none _
   | refine LeO.ite ?_ ?_
   | refine LeO.bind ?_ (fun _ => ?_)
def titheref22_Play.T28 : Bool × List (List Nat × List Nat) := (true, [([], []), ([], []), ([0, 1], [0, 1]), ([2], [2]), ([], []), ([], []), ([4, 5], [4, 5]), ([6], [6]), ([7], [7]), ([3, 8], [3, 8])])
def titheref22_Play.B28 : List Nat := [0, 0, 3, 7, 0, 0, 48, 112, 240, 511]
theorem titheref22_Play.tab28 : rtab .any (opsOf Try.f43 28) = titheref22_Play.T28 := by kernel_rfl
theorem titheref22_Play.bits28 : waitsOk titheref22_Play.T28.2 titheref22_Play.B28 = true := by kernel_rfl
def titheref22_Play.T29 : Bool × List (List Nat × List Nat) := (true, [([], []), ([], []), ([], []), ([], []), ([2, 3], [2, 3]), ([4], [4]), ([], []), ([6], [6]), ([], []), ([], []), ([8, 9], [8, 9]), ([10], [10]), ([7, 11], [7, 11]), ([5, 12], [5, 12]), ([0, 1, 0, 1, 2, 3, 4, 5, 6, 7, 8, 9, 10, 11, 12, 13], [0, 1]), ([14, 13, 0, 1, 2, 3, 4, 5, 6, 7, 8, 9, 10, 11, 12, 13], [13, 14])])
def titheref22_Play.B29 : List Nat := [0, 0, 0, 0, 12, 28, 0, 64, 0, 0, 768, 1792, 4032, 8188, 16383, 32767]
theorem titheref22_Play.tab29 : rtab .any (opsOf Try.f43 29) = titheref22_Play.T29 := by kernel_rfl
theorem titheref22_Play.bits29 : waitsOk titheref22_Play.T29.2 titheref22_Play.B29 = true := by kernel_rfl
def titheref22_Play.T30 : Bool × List (List Nat × List Nat) := (true, [([], []), ([], []), ([], []), ([], []), ([2, 3], [2, 3]), ([4], [4]), ([], []), ([], []), ([6, 7], [6, 7]), ([8], [8]), ([9], [9]), ([5, 10], [5, 10]), ([0, 1, 0, 1, 2, 3, 4, 5, 6, 7, 8, 9, 10, 11], [0, 1]), ([12, 11, 0, 1, 2, 3, 4, 5, 6, 7, 8, 9, 10, 11], [11, 12])])
def titheref22_Play.B30 : List Nat := [0, 0, 0, 0, 12, 28, 0, 0, 192, 448, 960, 2044, 4095, 8191]
theorem titheref22_Play.tab30 : rtab .any (opsOf Try.f43 30) = titheref22_Play.T30 := by kernel_rfl
theorem titheref22_Play.bits30 : waitsOk titheref22_Play.T30.2 titheref22_Play.B30 = true := by kernel_rfl
set_option maxHeartbeats 8000000 in
set_option maxRecDepth 100000 in
theorem titheref22_Play.calls (k : Nat) (A0 : Option Addr) (c0 : Nat) (l0 : List (S43)) (A1 : Option Addr) (c1 : Nat) (l1 : List Int) (A2 : Option Addr) (c2 : Nat) (l2 : List Bool) (r1 : List Int) (r2 : Int) (w : World) (hr0 : Kd.C k43 w A0 l0.length l0) (hc0 : l0.length ≤ c0) (hr1 : Kd.C (Kd.int .i64) w A1 l1.length l1) (hc1 : l1.length ≤ c1) (hr2 : Kd.C Kd.bool w A2 l2.length l2) (hc2 : l2.length ≤ c2) (h : titheref22_Play.f k l0 l1 l2 = some (r1, r2)) :
  Calls Try.prog 43 #[.slice A0 l0.length c0, .slice A1 l1.length c1, .slice A2 l2.length c2] w fun e w' => ∃ v0_ : Value, e = .returned (.tuple #[v0_, .int .i64 r2]) ∧ Kd.R (Kd.int .i64) 3 w' w.heap.size (fun _ => True) v0_ r1 ∧ Below w.heap.size w w' := by
 have HR0 := Aside0.mk hr0
 have HC0 := Aside0.mk hc0
 clear hr0 hc0
 have HR1 := Aside0.mk hr1
 have HC1 := Aside0.mk hc1
 clear hr1 hc1
 have HR2 := Aside0.mk hr2
 have HC2 := Aside0.mk hc2
 clear hr2 hc2
 have HB := Aside0.mk (Below.refl w.heap.size w)
 have H : ((titheref20_Valid.f k l0).bind fun t232 => (if t232 = 0 then (if (l1.length : Int) = (l0.length : Int) then (titheref22_Play.j0 k l0 l1 l2 (decide ((l2.length : Int) > 4096))) else (titheref22_Play.j0 k l0 l1 l2 true)) else (some (([] : List Int), t232)))) = some (r1, r2) := h
 clear h
 replace H := Option.bind_eq_some_iff.mp H
 obtain ⟨t232, A40, H⟩ := H
 replace H : (if t232 = 0 then (if (l1.length : Int) = (l0.length : Int) then (titheref22_Play.j0 k l0 l1 l2 (decide ((l2.length : Int) > 4096))) else (titheref22_Play.j0 k l0 l1 l2 true)) else (some (([] : List Int), t232))) = some (r1, r2) := H
 have A4 := Aside0.mk A40
 clear A40
 by_cases c5 : t232 = 0
 ·rw [if_pos c5] at H
  have c5b0 : (t232 == 0) = true := beq_iff_eq.mpr c5
  have c5b1 : (t232 != 0) = false := bne_eq_false_iff_eq.mpr c5
  clear c5
  have HC6 := Aside0.mk H
  clear H
  go_enter Try.func43, Try.ntmps43
  go_upto_region 4 with (first | ((with_reducible refine gate_callee (f := 21) rfl ?_); refine goesL_ (some 20) rfl rfl Try.func21 (by kernel_rfl) rfl #[.slice A0 l0.length c0] rfl (by (try simp only [List.map_toArray, List.map_cons, List.map_nil]); first | done | rfl | (simp only [List.length_drop, List.length_take]; rfl)) ?_; (with_reducible refine (titheref20_Valid.calls k _ _ l0 t232 _ ?side1 ?side2 A4.out).mono ?_); (case side1 => repeat (first | exact HR0.out | (with_reducible refine Kd.C_alloc ?_ _) | (with_reducible refine Kd.C_drewN ?_ _) | (with_reducible refine Kd.C_drew ?_))); (case side2 => exact HC0.out); rintro e w7 ⟨rfl, hb⟩; refine ⟨_, rfl, ?_⟩; have n0_ := Aside0.mk (below_step (by repeat (first | (with_reducible first | exact HB.out | apply below_alloc | apply pw_below_drewN | apply below_drew1) | exact HB.out)) hb); clear HB; have HB := n0_; clear n0_; (try clear hb); (try clear hb2); (try clear hk); (try clear hi)))
  (try simp only [Act.put, List.setIfInBounds_toArray, List.set_cons_zero, List.set_cons_succ])
  go_cut [33] (fun v33 wc => ∃ (kq : Nat) (x33_5 : Bool), v33 = .bool x33_5 ∧ Aside0 (titheref22_Play.j0 kq l0 l1 l2 x33_5 = some (r1, r2)) ∧ Aside0 (kq ≤ k) ∧ Aside0 (Below w.heap.size w wc))
  case first =>
   have H := HC6.out
   clear HC6
   by_cases c8 : (l1.length : Int) = (l0.length : Int)
   ·rw [if_pos c8] at H
    have c8b0 : ((l1.length : Int) == (l0.length : Int)) = true := beq_iff_eq.mpr c8
    have c8b1 : ((l1.length : Int) != (l0.length : Int)) = false := bne_eq_false_iff_eq.mpr c8
    have c8b2 : (l1.length == l0.length) = true := by first | simpa using c8 | (simp at c8 ⊢; omega)
    clear c8
    (first | rw [c8b0] | (simp only [i64_w, i32_w]; rw [c8b0]) | skip)
    have H' := Aside0.mk H
    clear H
    go_wp2
    go_meet
    case rel => exact ⟨_, (decide ((l2.length : Int) > 4096)), (by first | rfl | (simp; done) | (simp [*]; done)), H', ⟨by first | omega | exact Nat.le_refl _⟩, ⟨by repeat (first | (with_reducible first | exact HB.out | apply below_alloc | apply pw_below_drewN | apply below_drew1) | exact HB.out)⟩⟩
   ·rw [if_neg c8] at H
    have c8b0 : ((l1.length : Int) == (l0.length : Int)) = false := beq_eq_false_iff_ne.mpr c8
    have c8b1 : ((l1.length : Int) != (l0.length : Int)) = true := bne_iff_ne.mpr c8
    have c8b2 : (l1.length == l0.length) = false := by first | simpa using c8 | (simp at c8 ⊢; omega)
    (first | rw [c8b0] | (simp only [i64_w, i32_w]; rw [c8b0]) | skip)
    have H' := Aside0.mk H
    clear H
    go_wp2
    go_meet
    case rel => exact ⟨_, (true), (by first | rfl | (simp; done) | (simp [*]; done)), H', ⟨by first | omega | exact Nat.le_refl _⟩, ⟨by repeat (first | (with_reducible first | exact HB.out | apply below_alloc | apply pw_below_drewN | apply below_drew1) | exact HB.out)⟩⟩
  case rest =>
   clear HC6
   try clear c1; try clear c2; try clear p2; try clear c4; try clear c5; try clear c5b0; try clear c5b1; try clear c8; try clear c8b0; try clear c8b1; try clear c8b2
   obtain ⟨kq, x33_5, rfl, HA, HJ5, HB⟩ := hcut
   cases kq with
   | zero => exact absurd HA.out (by simp [titheref22_Play.j0])
   | succ kj5 =>
    have H := HA.out
    clear HA
    simp only [titheref22_Play.j0] at H
    by_cases c9 : x33_5 = true
    ·subst c9
     have H1 : (some (([] : List Int), 1)) = some (r1, r2) := by rw [if_pos rfl] at H; exact H
     clear H
     have H := H1
     clear H1
     simp only [Option.some.injEq, Prod.mk.injEq] at H
     obtain ⟨rfl, rfl⟩ := H
     go_wp2
     go_ret2
     exact ⟨_, by first | rfl | (simp [errW_none, errW_some] <;> rfl) | (simp [*, errW_none, errW_some] <;> rfl), by first | exact Kd.R_nil _ _ _ _ _ | exact Kd.N_nil _ _ _ _ _ | exact Kd.V_nil _ _ _ _ _ | exact Kd.Q_nil _ _ _ _ _ | exact Kd.S_nil _ _ _ _ _, by repeat (first | (with_reducible first | exact HB.out | apply below_alloc | apply pw_below_drewN | apply below_drew1) | exact HB.out)⟩
    ·replace c9 := Bool.eq_false_iff.mpr c9
     subst c9
     have H1 : (titheref22_Play.l0 kj5 l0 l1 l2 0) = some (r1, r2) := by rw [if_neg (show ¬ (false = true) by decide)] at H; exact H
     clear H
     have H := H1
     clear H1
     have H' := Aside0.mk H
     clear H
     go_wp2
     go_loopg [9] kj5 (fun kq v9 w' => ∃ (x9_2 : Int), v9 = .int .i64 x9_2 ∧ Aside0 (titheref22_Play.l0 kq l0 l1 l2 x9_2 = some (r1, r2)) ∧ Aside0 (kq ≤ kj5) ∧ Aside0 (Below w.heap.size w w'))
     case atStart => exact ⟨(0), (by first | rfl | (simp; done) | (simp [*]; done)), H', ⟨Nat.le_refl _⟩, ⟨by repeat (first | (with_reducible first | exact HB.out | apply below_alloc | apply pw_below_drewN | apply below_drew1) | exact HB.out)⟩⟩
     case round =>
      clear H'
      try clear c1; try clear c2; try clear p2; try clear c4; try clear c5; try clear c5b0; try clear c5b1; try clear c8; try clear c8b0; try clear c8b1; try clear c8b2; try clear c9; try clear p2
      obtain ⟨x9_2, rfl, HA, HK2, HB⟩ := hrel
      cases gk with
      | zero => exact absurd HA.out (by simp [titheref22_Play.l0])
      | succ k2 =>
       have H := HA.out
       clear HA
       simp only [titheref22_Play.l0] at H
       by_cases c10 : x9_2 < (l1.length : Int)
       ·rw [if_pos c10] at H
        have c10b0 : decide (x9_2 < (l1.length : Int)) = true := decide_eq_true c10
        clear c10
        by_cases c11 : 0 ≤ x9_2
        rotate_left
        ·rw [if_neg c11] at H; exact absurd H (by simp)
        rw [if_pos c11] at H
        have c11b0 : decide (0 ≤ x9_2) = true := decide_eq_true c11
        clear c11
        by_cases c12 : (rd l1 x9_2) < 0
        ·rw [if_pos c12] at H
         have c12b0 : decide ((rd l1 x9_2) < 0) = true := decide_eq_true c12
         clear c12
         simp only [Option.some.injEq, Prod.mk.injEq] at H
         obtain ⟨rfl, rfl⟩ := H
         have p233 : 0 ≤ (x9_2 : Int) := of_decide_eq_true (by first | (with_reducible assumption) | assumption)
         have q233 : x9_2 < (l1.length : Int) := of_decide_eq_true (by first | (with_reducible assumption) | assumption)
         obtain ⟨ad233, e233, hx233_0⟩ := Kd.at_int HR1.out x9_2 p233 q233
         cases e233
         replace hx233_0 := (HB.out.cell (World.block_lt_of_cell? w _ hx233_0)).trans hx233_0
         replace p233 := eq_true p233
         replace q233 := eq_true q233
         go_wp2
         go_ret2
         exact ⟨_, by first | rfl | (simp [errW_none, errW_some] <;> rfl) | (simp [*, errW_none, errW_some] <;> rfl), by first | exact Kd.R_nil _ _ _ _ _ | exact Kd.N_nil _ _ _ _ _ | exact Kd.V_nil _ _ _ _ _ | exact Kd.Q_nil _ _ _ _ _ | exact Kd.S_nil _ _ _ _ _, by repeat (first | (with_reducible first | exact HB.out | apply below_alloc | apply pw_below_drewN | apply below_drew1) | exact HB.out)⟩
        ·rw [if_neg c12] at H
         have c12b0 : decide ((rd l1 x9_2) < 0) = false := decide_eq_false c12
         clear c12
         by_cases c13 : (rd l1 x9_2) > 1073741824
         ·rw [if_pos c13] at H
          have c13b0 : decide (1073741824 < (rd l1 x9_2)) = true := decide_eq_true c13
          clear c13
          simp only [Option.some.injEq, Prod.mk.injEq] at H
          obtain ⟨rfl, rfl⟩ := H
          have p233 : 0 ≤ (x9_2 : Int) := of_decide_eq_true (by first | (with_reducible assumption) | assumption)
          have q233 : x9_2 < (l1.length : Int) := of_decide_eq_true (by first | (with_reducible assumption) | assumption)
          obtain ⟨ad233, e233, hx233_0⟩ := Kd.at_int HR1.out x9_2 p233 q233
          cases e233
          replace hx233_0 := (HB.out.cell (World.block_lt_of_cell? w _ hx233_0)).trans hx233_0
          replace p233 := eq_true p233
          replace q233 := eq_true q233
          have p234 : 0 ≤ (x9_2 : Int) := of_decide_eq_true (by first | (with_reducible assumption) | assumption)
          have q234 : x9_2 < (l1.length : Int) := of_decide_eq_true (by first | (with_reducible assumption) | assumption)
          obtain ⟨ad234, e234, hx234_0⟩ := Kd.at_int HR1.out x9_2 p234 q234
          obtain rfl : ad233 = ad234 := (by injection e234)
          replace hx234_0 := (HB.out.cell (World.block_lt_of_cell? w _ hx234_0)).trans hx234_0
          replace p234 := eq_true p234
          replace q234 := eq_true q234
          go_wp2
          go_ret2
          exact ⟨_, by first | rfl | (simp [errW_none, errW_some] <;> rfl) | (simp [*, errW_none, errW_some] <;> rfl), by first | exact Kd.R_nil _ _ _ _ _ | exact Kd.N_nil _ _ _ _ _ | exact Kd.V_nil _ _ _ _ _ | exact Kd.Q_nil _ _ _ _ _ | exact Kd.S_nil _ _ _ _ _, by repeat (first | (with_reducible first | exact HB.out | apply below_alloc | apply pw_below_drewN | apply below_drew1) | exact HB.out)⟩
         ·rw [if_neg c13] at H
          have c13b0 : decide (1073741824 < (rd l1 x9_2)) = false := decide_eq_false c13
          clear c13
          have H' := Aside0.mk H
          clear H
          have p233 : 0 ≤ (x9_2 : Int) := of_decide_eq_true (by first | (with_reducible assumption) | assumption)
          have q233 : x9_2 < (l1.length : Int) := of_decide_eq_true (by first | (with_reducible assumption) | assumption)
          obtain ⟨ad233, e233, hx233_0⟩ := Kd.at_int HR1.out x9_2 p233 q233
          cases e233
          replace hx233_0 := (HB.out.cell (World.block_lt_of_cell? w _ hx233_0)).trans hx233_0
          replace p233 := eq_true p233
          replace q233 := eq_true q233
          have p234 : 0 ≤ (x9_2 : Int) := of_decide_eq_true (by first | (with_reducible assumption) | assumption)
          have q234 : x9_2 < (l1.length : Int) := of_decide_eq_true (by first | (with_reducible assumption) | assumption)
          obtain ⟨ad234, e234, hx234_0⟩ := Kd.at_int HR1.out x9_2 p234 q234
          obtain rfl : ad233 = ad234 := (by injection e234)
          replace hx234_0 := (HB.out.cell (World.block_lt_of_cell? w _ hx234_0)).trans hx234_0
          replace p234 := eq_true p234
          replace q234 := eq_true q234
          go_wp2
          go_roundg k2
          case measure => have := HJ5.out; have := HK2.out; omega
          case rel => exact ⟨(wrap64 (x9_2 + 1)), (by first | rfl | (simp; done) | (simp [*]; done)), H', ⟨by have := HJ5.out; have := HK2.out; omega⟩, ⟨by repeat (first | (with_reducible first | exact HB.out | apply below_alloc | apply pw_below_drewN | apply below_drew1) | exact HB.out)⟩⟩
       ·rw [if_neg c10] at H
        have c10b0 : decide (x9_2 < (l1.length : Int)) = false := decide_eq_false c10
        clear c10
        replace H := Option.bind_eq_some_iff.mp H
        obtain ⟨⟨t235, t236⟩, A140, H⟩ := H
        replace H : (if 0 ≤ (l0.length : Int) then (if ((l0.length : Int) : Int).toNat ≤ 35184372088832 then (titheref22_Play.l1 k2 l0 l1 l2 t235 (List.replicate ((l0.length : Int) : Int).toNat 0) (List.replicate ((l0.length : Int) : Int).toNat 0) (List.replicate ((l0.length : Int) : Int).toNat 0) 0) else (none)) else (none)) = some (r1, r2) := H
        have A14 := Aside0.mk A140
        clear A140
        by_cases c15 : 0 ≤ (l0.length : Int)
        rotate_left
        ·rw [if_neg c15] at H; exact absurd H (by simp)
        rw [if_pos c15] at H
        have c15b0 := eq_true c15
        have c15b1 : decide (0 ≤ (l0.length : Int)) = true := decide_eq_true c15
        clear c15
        by_cases c16 : ((l0.length : Int) : Int).toNat ≤ 35184372088832
        rotate_left
        ·rw [if_neg c16] at H; exact absurd H (by simp)
        rw [if_pos c16] at H
        have c16b0 := eq_true c16
        have c16b1 : decide (((l0.length : Int) : Int).toNat ≤ 35184372088832) = true := decide_eq_true c16
        clear c16
        obtain ⟨y239, hy239⟩ : ∃ y_ : List Int, y_ = (List.replicate ((l0.length : Int) : Int).toNat 0) := ⟨_, rfl⟩
        replace H : (titheref22_Play.l1 k2 l0 l1 l2 t235 y239 (List.replicate ((l0.length : Int) : Int).toNat 0) (List.replicate ((l0.length : Int) : Int).toNat 0) 0) = some (r1, r2) := by first | (rw [hy239]; with_reducible exact H) | (have H2_ := (Option.bind_some _ _).symm.trans H; rw [hy239]; with_reducible exact H2_) | (have H2_ := (Option.bind_some _ _).symm.trans H; with_reducible exact H2_) | with_reducible exact H | (rw [hy239]; exact H) | exact H
        have Ny239 := Aside0.mk hy239
        clear hy239
        obtain ⟨y242, hy242⟩ : ∃ y_ : List Int, y_ = (List.replicate ((l0.length : Int) : Int).toNat 0) := ⟨_, rfl⟩
        replace H : (titheref22_Play.l1 k2 l0 l1 l2 t235 y239 y242 (List.replicate ((l0.length : Int) : Int).toNat 0) 0) = some (r1, r2) := by first | (rw [hy242]; with_reducible exact H) | (have H2_ := (Option.bind_some _ _).symm.trans H; rw [hy242]; with_reducible exact H2_) | (have H2_ := (Option.bind_some _ _).symm.trans H; with_reducible exact H2_) | with_reducible exact H | (rw [hy242]; exact H) | exact H
        have Ny242 := Aside0.mk hy242
        clear hy242
        obtain ⟨y245, hy245⟩ : ∃ y_ : List Int, y_ = (List.replicate ((l0.length : Int) : Int).toNat 0) := ⟨_, rfl⟩
        replace H : (titheref22_Play.l1 k2 l0 l1 l2 t235 y239 y242 y245 0) = some (r1, r2) := by first | (rw [hy245]; with_reducible exact H) | (have H2_ := (Option.bind_some _ _).symm.trans H; rw [hy245]; with_reducible exact H2_) | (have H2_ := (Option.bind_some _ _).symm.trans H; with_reducible exact H2_) | with_reducible exact H | (rw [hy245]; exact H) | exact H
        have Ny245 := Aside0.mk hy245
        clear hy245
        have H' := Aside0.mk H
        clear H
        go_wp2_with (first | ((with_reducible refine gate_callee (f := 13) rfl ?_); refine goesL_ (some 54) rfl rfl Try.func13 (by kernel_rfl) rfl #[.slice A0 l0.length c0] rfl (by (try simp only [List.map_toArray, List.map_cons, List.map_nil]); first | done | rfl | (simp only [List.length_drop, List.length_take]; rfl)) ?_; (with_reducible refine (titheref20_Order.calls k2 _ _ l0 t235 t236 _ ?side1 ?side2 A14.out).mono ?_); (case side1 => repeat (first | exact (Kd.C_below HR0.out HB.out) | (with_reducible refine Kd.C_alloc ?_ _) | (with_reducible refine Kd.C_drewN ?_ _) | (with_reducible refine Kd.C_drew ?_))); (case side2 => exact HC0.out); rintro e w17 ⟨v237, rfl, ho0, hb⟩; refine ⟨_, rfl, ?_⟩; have n0_ := Aside0.mk (Kd.R_lower ho0 (below_size (by repeat (first | (with_reducible first | exact HB.out | apply below_alloc | apply pw_below_drewN | apply below_drew1) | exact HB.out)))); have n1_ := Aside0.mk (below_step (by repeat (first | (with_reducible first | exact HB.out | apply below_alloc | apply pw_below_drewN | apply below_drew1) | exact HB.out)) hb); clear HB; have HO238 := n0_; have HB := n1_; clear n0_ n1_; (try clear hb); (try clear hb2); (try clear hk); (try clear hi); (try clear ho0)) | ((with_reducible refine gate_dst (N := 59) rfl ?_); (try (refine gate_guard (by rfl) ?_; dsimp only)); refine Kd.R_make (Kd.int .i64) _ 3 rfl (N := 59) rfl 23 _ _ rfl (l0.length : Int) rfl rfl Try.underlying23 (.int .i64 0) 8 info3 rfl (by decide) (by omega) 0 (ok := fun _ => True) (okp := fun _ => True) rfl (fun _ hk => hk) trivial (of_decide_eq_true (by first | (with_reducible assumption) | assumption)) (Nat.le_trans (Nat.mul_le_mul_right _ (of_decide_eq_true (by first | (with_reducible assumption) | assumption) : (l0.length : Int).toNat ≤ 35184372088832)) (by omega)) (Below.refl _ _) (Nat.le_refl _) ?_; intro v240 w18 ho19 hb hg_ hnew_; clear hg_ hnew_; (first | rw [← Ny239.out] at ho19 | (simp only [Int.reduceToNat] at ho19; rw [← Ny239.out] at ho19)); have n0_ := Aside0.mk (Kd.R_elder' (by (with_reducible repeat (first | apply Kd.R_alloc | apply Kd.R_drewN | apply Kd.R_drew)); exact HO238.out) (Kd.R_base ho19) hb); have n1_ := Aside0.mk (Kd.R_lower (Kd.R_new' ho19 (Kd.R_lt (by (with_reducible repeat (first | apply Kd.R_alloc | apply Kd.R_drewN | apply Kd.R_drew)); exact HO238.out))) (below_size (by repeat (first | (with_reducible first | exact HB.out | apply below_alloc | apply pw_below_drewN | apply below_drew1) | exact HB.out)))); have n2_ := Aside0.mk (below_step (by repeat (first | (with_reducible first | exact HB.out | apply below_alloc | apply pw_below_drewN | apply below_drew1) | exact HB.out)) hb); clear HO238; clear HB; have HO238 := n0_; have HO241 := n1_; have HB := n2_; clear n0_ n1_ n2_; clear hb ho19) | ((with_reducible refine gate_dst (N := 62) rfl ?_); (try (refine gate_guard (by rfl) ?_; dsimp only)); refine Kd.R_make (Kd.int .i64) _ 3 rfl (N := 62) rfl 23 _ _ rfl (l0.length : Int) rfl rfl Try.underlying23 (.int .i64 0) 8 info3 rfl (by decide) (by omega) 0 (ok := fun _ => True) (okp := fun _ => True) rfl (fun _ hk => hk) trivial (of_decide_eq_true (by first | (with_reducible assumption) | assumption)) (Nat.le_trans (Nat.mul_le_mul_right _ (of_decide_eq_true (by first | (with_reducible assumption) | assumption) : (l0.length : Int).toNat ≤ 35184372088832)) (by omega)) (Below.refl _ _) (Nat.le_refl _) ?_; intro v243 w20 ho21 hb hg_ hnew_; clear hg_ hnew_; (first | rw [← Ny242.out] at ho21 | (simp only [Int.reduceToNat] at ho21; rw [← Ny242.out] at ho21)); have n0_ := Aside0.mk (Kd.R_elder' (by (with_reducible repeat (first | apply Kd.R_alloc | apply Kd.R_drewN | apply Kd.R_drew)); exact HO238.out) (Kd.R_base ho21) hb); have n1_ := Aside0.mk (Kd.R_elder' (by (with_reducible repeat (first | apply Kd.R_alloc | apply Kd.R_drewN | apply Kd.R_drew)); exact HO241.out) (Kd.R_base ho21) hb); have n2_ := Aside0.mk (Kd.R_lower (Kd.R_new' (Kd.R_new' ho21 (Kd.R_lt (by (with_reducible repeat (first | apply Kd.R_alloc | apply Kd.R_drewN | apply Kd.R_drew)); exact HO238.out))) (Kd.R_lt (by (with_reducible repeat (first | apply Kd.R_alloc | apply Kd.R_drewN | apply Kd.R_drew)); exact HO241.out))) (below_size (by repeat (first | (with_reducible first | exact HB.out | apply below_alloc | apply pw_below_drewN | apply below_drew1) | exact HB.out)))); have n3_ := Aside0.mk (below_step (by repeat (first | (with_reducible first | exact HB.out | apply below_alloc | apply pw_below_drewN | apply below_drew1) | exact HB.out)) hb); clear HO238; clear HO241; clear HB; have HO238 := n0_; have HO241 := n1_; have HO244 := n2_; have HB := n3_; clear n0_ n1_ n2_ n3_; clear hb ho21) | ((with_reducible refine gate_dst (N := 65) rfl ?_); (try (refine gate_guard (by rfl) ?_; dsimp only)); refine Kd.R_make (Kd.int .i64) _ 3 rfl (N := 65) rfl 23 _ _ rfl (l0.length : Int) rfl rfl Try.underlying23 (.int .i64 0) 8 info3 rfl (by decide) (by omega) 0 (ok := fun _ => True) (okp := fun _ => True) rfl (fun _ hk => hk) trivial (of_decide_eq_true (by first | (with_reducible assumption) | assumption)) (Nat.le_trans (Nat.mul_le_mul_right _ (of_decide_eq_true (by first | (with_reducible assumption) | assumption) : (l0.length : Int).toNat ≤ 35184372088832)) (by omega)) (Below.refl _ _) (Nat.le_refl _) ?_; intro v246 w22 ho23 hb hg_ hnew_; clear hg_ hnew_; (first | rw [← Ny245.out] at ho23 | (simp only [Int.reduceToNat] at ho23; rw [← Ny245.out] at ho23)); have n0_ := Aside0.mk (Kd.R_elder' (by (with_reducible repeat (first | apply Kd.R_alloc | apply Kd.R_drewN | apply Kd.R_drew)); exact HO238.out) (Kd.R_base ho23) hb); have n1_ := Aside0.mk (Kd.R_elder' (by (with_reducible repeat (first | apply Kd.R_alloc | apply Kd.R_drewN | apply Kd.R_drew)); exact HO241.out) (Kd.R_base ho23) hb); have n2_ := Aside0.mk (Kd.R_elder' (by (with_reducible repeat (first | apply Kd.R_alloc | apply Kd.R_drewN | apply Kd.R_drew)); exact HO244.out) (Kd.R_base ho23) hb); have n3_ := Aside0.mk (Kd.R_lower (Kd.R_new' (Kd.R_new' (Kd.R_new' ho23 (Kd.R_lt (by (with_reducible repeat (first | apply Kd.R_alloc | apply Kd.R_drewN | apply Kd.R_drew)); exact HO238.out))) (Kd.R_lt (by (with_reducible repeat (first | apply Kd.R_alloc | apply Kd.R_drewN | apply Kd.R_drew)); exact HO241.out))) (Kd.R_lt (by (with_reducible repeat (first | apply Kd.R_alloc | apply Kd.R_drewN | apply Kd.R_drew)); exact HO244.out))) (below_size (by repeat (first | (with_reducible first | exact HB.out | apply below_alloc | apply pw_below_drewN | apply below_drew1) | exact HB.out)))); have n4_ := Aside0.mk (below_step (by repeat (first | (with_reducible first | exact HB.out | apply below_alloc | apply pw_below_drewN | apply below_drew1) | exact HB.out)) hb); clear HO238; clear HO241; clear HO244; clear HB; have HO238 := n0_; have HO241 := n1_; have HO244 := n2_; have HO247 := n3_; have HB := n4_; clear n0_ n1_ n2_ n3_ n4_; clear hb ho23))
        go_loopg [15] k2 (fun kq v15 w' => ∃ (x13_3 : List Int) (x15_3 : Int), v15 = .int .i64 x15_3 ∧ Aside0 (titheref22_Play.l1 kq l0 l1 l2 t235 y239 x13_3 y245 x15_3 = some (r1, r2)) ∧ Aside0 (kq ≤ k2) ∧ Aside0 (Kd.R (Kd.int .i64) 3 w' w.heap.size (fun k_ => some k_ ≠ (v240 : Value).ownBlock ∧ some k_ ≠ (v243 : Value).ownBlock ∧ some k_ ≠ (v246 : Value).ownBlock) v237 t235) ∧ Aside0 (Kd.R (Kd.int .i64) 3 w' w.heap.size (fun k_ => some k_ ≠ (v237 : Value).ownBlock ∧ some k_ ≠ (v243 : Value).ownBlock ∧ some k_ ≠ (v246 : Value).ownBlock) v240 y239) ∧ Aside0 (Kd.R (Kd.int .i64) 3 w' w.heap.size (fun k_ => some k_ ≠ (v237 : Value).ownBlock ∧ some k_ ≠ (v240 : Value).ownBlock ∧ some k_ ≠ (v246 : Value).ownBlock) v243 x13_3) ∧ Aside0 (Kd.R (Kd.int .i64) 3 w' w.heap.size (fun k_ => some k_ ≠ (v237 : Value).ownBlock ∧ some k_ ≠ (v240 : Value).ownBlock ∧ some k_ ≠ (v243 : Value).ownBlock) v246 y245) ∧ Aside0 (Below w.heap.size w w'))
        case atStart => exact ⟨(y242), (0), (by first | rfl | (simp; done) | (simp [*]; done)), H', ⟨Nat.le_refl _⟩, ⟨by (with_reducible repeat (first | apply Kd.R_alloc | apply Kd.R_drewN | apply Kd.R_drew)); exact Kd.R_mono HO238.out (fun _ hk => ⟨hk.1.1.2, ⟨hk.1.2, hk.2⟩⟩)⟩, ⟨by (with_reducible repeat (first | apply Kd.R_alloc | apply Kd.R_drewN | apply Kd.R_drew)); exact Kd.R_mono HO241.out (fun _ hk => ⟨hk.1.1.2, ⟨hk.1.2, hk.2⟩⟩)⟩, ⟨by (with_reducible repeat (first | apply Kd.R_alloc | apply Kd.R_drewN | apply Kd.R_drew)); exact Kd.R_mono HO244.out (fun _ hk => ⟨hk.1.1.2, ⟨hk.1.2, hk.2⟩⟩)⟩, ⟨by (with_reducible repeat (first | apply Kd.R_alloc | apply Kd.R_drewN | apply Kd.R_drew)); exact Kd.R_mono HO247.out (fun _ hk => ⟨hk.1.1.2, ⟨hk.1.2, hk.2⟩⟩)⟩, ⟨by repeat (first | (with_reducible first | exact HB.out | apply below_alloc | apply pw_below_drewN | apply below_drew1) | exact HB.out)⟩⟩
        case round =>
         clear H'
         try clear c1; try clear c2; try clear p2; try clear q2; try clear hx2; try clear c4; try clear c5; try clear c5b0; try clear c5b1; try clear p6; try clear c8; try clear c8b0; try clear c8b1; try clear c8b2; try clear c9; try clear c10; try clear c10b0; try clear c11; try clear c11b0; try clear c12; try clear c12b0; try clear c13; try clear c13b0; try clear c15; try clear c15b0; try clear c15b1; try clear c16; try clear c16b0; try clear c16b1; try clear c21; try clear p23; try clear q23; try clear hx23; try clear hx233_0; try clear hx234_0; try clear p2; try clear p233; try clear p234; try clear q233; try clear q234
         obtain ⟨x13_3, x15_3, rfl, HA, HK3, HO_10, HO_12, HO_13, HO_14, HB⟩ := hrel
         cases gk with
         | zero => exact absurd HA.out (by simp [titheref22_Play.l1])
         | succ k3 =>
          have H := HA.out
          clear HA
          simp only [titheref22_Play.l1] at H
          by_cases c24 : x15_3 < (l0.length : Int)
          ·rw [if_pos c24] at H
           have c24b0 : decide (x15_3 < (l0.length : Int)) = true := decide_eq_true c24
           clear c24
           by_cases c25 : 0 ≤ x15_3
           rotate_left
           ·rw [if_neg c25] at H; exact absurd H (by simp)
           rw [if_pos c25] at H
           have c25b0 : decide (0 ≤ x15_3) = true := decide_eq_true c25
           clear c25
           by_cases c26 : x15_3 < (l1.length : Int)
           rotate_left
           ·rw [if_neg c26] at H; exact absurd H (by simp)
           rw [if_pos c26] at H
           have c26b0 : decide (x15_3 < (l1.length : Int)) = true := decide_eq_true c26
           clear c26
           by_cases c27 : x15_3 < (x13_3.length : Int)
           rotate_left
           ·rw [if_neg c27] at H; exact absurd H (by simp)
           rw [if_pos c27] at H
           have c27b0 : decide (x15_3 < (x13_3.length : Int)) = true := decide_eq_true c27
           clear c27
           obtain ⟨y249, hy249⟩ : ∃ y_ : List Int, y_ = (x13_3.set (x15_3 : Int).toNat (rd l1 x15_3)) := ⟨_, rfl⟩
           replace H : (titheref22_Play.l1 k3 l0 l1 l2 t235 y239 y249 y245 (wrap64 (x15_3 + 1))) = some (r1, r2) := by first | (rw [hy249]; with_reducible exact H) | (have H2_ := (Option.bind_some _ _).symm.trans H; rw [hy249]; with_reducible exact H2_) | (have H2_ := (Option.bind_some _ _).symm.trans H; with_reducible exact H2_) | with_reducible exact H | (rw [hy249]; exact H) | exact H
           have Ny249 := Aside0.mk hy249
           clear hy249
           have H' := Aside0.mk H
           clear H
           have p248 : 0 ≤ (x15_3 : Int) := of_decide_eq_true (by first | (with_reducible assumption) | assumption)
           have q248 : x15_3 < (l1.length : Int) := of_decide_eq_true (by first | (with_reducible assumption) | assumption)
           obtain ⟨ad248, e248, hx248_0⟩ := Kd.at_int HR1.out x15_3 p248 q248
           cases e248
           replace hx248_0 := (HB.out.cell (World.block_lt_of_cell? w _ hx248_0)).trans hx248_0
           replace p248 := eq_true p248
           replace q248 := eq_true q248
           have p28 : 0 ≤ (x15_3 : Int) := of_decide_eq_true (by first | (with_reducible assumption) | assumption)
           have q28 : (x15_3 : Int) < ((x13_3.length : Int) : Int) := of_decide_eq_true (by first | (with_reducible assumption) | assumption)
           obtain ⟨go28, co28, eo28, gb28, gl28, cl28, HG28⟩ := Kd.R_form HO_13.out (by omega)
           (first | cases eo28 | (injection eo28 with ea_ en_ ec_; (first | subst ea_ | (injection ea_ with ea_; subst ea_)); subst ec_; clear en_))
           have GB28 := Aside0.mk gb28
           have GG28 := Aside0.mk HG28
           clear gb28 gl28 HG28
           obtain ⟨hx28_0, hf28_0⟩ := Kd.R_celln 0 HO_13.out (x15_3 : Int) p28 q28
           replace p28 := eq_true p28
           replace q28 := eq_true q28
           have HP29 := Kd.R_putg HO_13.out (x15_3 : Int) (rd l1 x15_3)
           go_wp2_with (first | ((with_reducible refine gate_store (t := 3) (p := 78) rfl ?_); refine store_event (t := 3) (p := 78) (v := ?vo_w30) (w1 := (wr.setCell ⟨go28, (x15_3 : Int).toNat, none⟩ (.int .i64 (rd l1 x15_3)))) ?hg ?ho ?hn ?hr ?_; (case ho => rfl); (case hg => rfl); (case hn => rfl); (case hr => first | (go_simp; done) | (go_simp; rfl)); intro w30 hw; have hg : wr.grownBy w30 (some go28) := (by rw [hw]; exact HP29.2); have hp_ : Kd.R (Kd.int .i64) 3 w30 w.heap.size (fun k_ => some k_ ≠ (v237 : Value).ownBlock ∧ some k_ ≠ (v240 : Value).ownBlock ∧ some k_ ≠ (v246 : Value).ownBlock) (.slice (some ⟨go28, 0, none⟩) x13_3.length co28) y249 := (by rw [hw, Ny249.out]; exact HP29.1); clear HP29; have n0_ := Aside0.mk (Kd.R_after (v := (.slice (some ⟨go28, 0, none⟩) x13_3.length co28)) (v1 := (.slice (some ⟨go28, 0, none⟩) x13_3.length co28)) (ok := (fun k_ => some k_ ≠ (v240 : Value).ownBlock ∧ some k_ ≠ (v246 : Value).ownBlock)) (by (with_reducible repeat (first | apply Kd.R_alloc | apply Kd.R_drewN | apply Kd.R_drew)); exact Kd.R_mono HO_10.out (fun _ hk => ⟨⟨hk.1, hk.2.2⟩, hk.2.1⟩)) hg (.inl rfl)); have n1_ := Aside0.mk (Kd.R_after (v := (.slice (some ⟨go28, 0, none⟩) x13_3.length co28)) (v1 := (.slice (some ⟨go28, 0, none⟩) x13_3.length co28)) (ok := (fun k_ => some k_ ≠ (v237 : Value).ownBlock ∧ some k_ ≠ (v246 : Value).ownBlock)) (by (with_reducible repeat (first | apply Kd.R_alloc | apply Kd.R_drewN | apply Kd.R_drew)); exact Kd.R_mono HO_12.out (fun _ hk => ⟨⟨hk.1, hk.2.2⟩, hk.2.1⟩)) hg (.inl rfl)); have n2_ := Aside0.mk (hp_); have n3_ := Aside0.mk (Kd.R_after (v := (.slice (some ⟨go28, 0, none⟩) x13_3.length co28)) (v1 := (.slice (some ⟨go28, 0, none⟩) x13_3.length co28)) (ok := (fun k_ => some k_ ≠ (v237 : Value).ownBlock ∧ some k_ ≠ (v240 : Value).ownBlock)) (by (with_reducible repeat (first | apply Kd.R_alloc | apply Kd.R_drewN | apply Kd.R_drew)); exact Kd.R_mono HO_14.out (fun _ hk => ⟨⟨hk.1, hk.2.1⟩, hk.2.2⟩)) hg (.inl rfl)); have n4_ := Aside0.mk ((by rw [hw]; exact below_set (HB.out) GB28.out : Below w.heap.size w w30)); clear HO_10; clear HO_12; clear HO_13; clear HO_14; clear HB; have HO_10 := n0_; have HO_12 := n1_; have HO_13 := n2_; have HO_14 := n3_; have HB := n4_; clear n0_ n1_ n2_ n3_ n4_; clear hg hw hp_))
           go_roundg k3
           case measure => have := HJ5.out; have := HK2.out; have := HK3.out; omega
           case rel => exact ⟨(y249), (wrap64 (x15_3 + 1)), (by first | rfl | (simp; done) | (simp [*]; done)), H', ⟨by have := HJ5.out; have := HK2.out; have := HK3.out; omega⟩, ⟨by (with_reducible repeat (first | apply Kd.R_alloc | apply Kd.R_drewN | apply Kd.R_drew)); exact Kd.R_mono HO_10.out (fun _ hk => ⟨hk.1.1, ⟨hk.2, hk.1.2⟩⟩)⟩, ⟨by (with_reducible repeat (first | apply Kd.R_alloc | apply Kd.R_drewN | apply Kd.R_drew)); exact Kd.R_mono HO_12.out (fun _ hk => ⟨hk.1.1, ⟨hk.2, hk.1.2⟩⟩)⟩, ⟨by (with_reducible repeat (first | apply Kd.R_alloc | apply Kd.R_drewN | apply Kd.R_drew)); exact HO_13.out⟩, ⟨by (with_reducible repeat (first | apply Kd.R_alloc | apply Kd.R_drewN | apply Kd.R_drew)); exact Kd.R_mono HO_14.out (fun _ hk => ⟨hk.1.1, ⟨hk.1.2, hk.2⟩⟩)⟩, ⟨by repeat (first | (with_reducible first | exact HB.out | apply below_alloc | apply pw_below_drewN | apply below_drew1) | exact HB.out)⟩⟩
          ·rw [if_neg c24] at H
           have c24b0 : decide (x15_3 < (l0.length : Int)) = false := decide_eq_false c24
           clear c24
           have H' := Aside0.mk H
           clear H
           go_wp2
           go_loopg [16] k3 (fun kq v16 w' => ∃ (x12_4 : List Int) (x13_4 : List Int) (x14_4 : List Int) (x16_4 : Int), v16 = .int .i64 x16_4 ∧ Aside0 (titheref22_Play.l2 kq l0 l2 t235 x12_4 x13_4 x14_4 x16_4 = some (r1, r2)) ∧ Aside0 (kq ≤ k3) ∧ Aside0 (Kd.R (Kd.int .i64) 3 w' w.heap.size (fun k_ => some k_ ≠ (v240 : Value).ownBlock ∧ some k_ ≠ (v243 : Value).ownBlock ∧ some k_ ≠ (v246 : Value).ownBlock) v237 t235) ∧ Aside0 (Kd.R (Kd.int .i64) 3 w' w.heap.size (fun k_ => some k_ ≠ (v237 : Value).ownBlock ∧ some k_ ≠ (v243 : Value).ownBlock ∧ some k_ ≠ (v246 : Value).ownBlock) v240 x12_4) ∧ Aside0 (Kd.R (Kd.int .i64) 3 w' w.heap.size (fun k_ => some k_ ≠ (v237 : Value).ownBlock ∧ some k_ ≠ (v240 : Value).ownBlock ∧ some k_ ≠ (v246 : Value).ownBlock) v243 x13_4) ∧ Aside0 (Kd.R (Kd.int .i64) 3 w' w.heap.size (fun k_ => some k_ ≠ (v237 : Value).ownBlock ∧ some k_ ≠ (v240 : Value).ownBlock ∧ some k_ ≠ (v243 : Value).ownBlock) v246 x14_4) ∧ Aside0 (Below w.heap.size w w'))
           case atStart => exact ⟨(y239), (x13_3), (y245), (0), (by first | rfl | (simp; done) | (simp [*]; done)), H', ⟨Nat.le_refl _⟩, ⟨by (with_reducible repeat (first | apply Kd.R_alloc | apply Kd.R_drewN | apply Kd.R_drew)); exact HO_10.out⟩, ⟨by (with_reducible repeat (first | apply Kd.R_alloc | apply Kd.R_drewN | apply Kd.R_drew)); exact HO_12.out⟩, ⟨by (with_reducible repeat (first | apply Kd.R_alloc | apply Kd.R_drewN | apply Kd.R_drew)); exact HO_13.out⟩, ⟨by (with_reducible repeat (first | apply Kd.R_alloc | apply Kd.R_drewN | apply Kd.R_drew)); exact HO_14.out⟩, ⟨by repeat (first | (with_reducible first | exact HB.out | apply below_alloc | apply pw_below_drewN | apply below_drew1) | exact HB.out)⟩⟩
           case round =>
            clear H'
            try clear c1; try clear c2; try clear p2; try clear q2; try clear hx2; try clear c4; try clear c5; try clear c5b0; try clear c5b1; try clear p6; try clear c8; try clear c8b0; try clear c8b1; try clear c8b2; try clear c9; try clear c10; try clear c10b0; try clear c11; try clear c11b0; try clear c12; try clear c12b0; try clear c13; try clear c13b0; try clear c15; try clear c15b0; try clear c15b1; try clear c16; try clear c16b0; try clear c16b1; try clear c21; try clear p23; try clear q23; try clear hx23; try clear c24; try clear c24b0; try clear p24; try clear q24; try clear hx24; try clear c25; try clear c25b0; try clear c26; try clear c26b0; try clear c27; try clear c27b0; try clear p28; try clear q28; try clear hx28; try clear hf28; try clear hx233_0; try clear hx234_0; try clear hx248_0; try clear hx28_0; try clear p2; try clear p23; try clear p233; try clear p234; try clear p248; try clear p28; try clear p6; try clear q2; try clear q23; try clear q233; try clear q234; try clear q248; try clear q28
            obtain ⟨x12_4, x13_4, x14_4, x16_4, rfl, HA, HK4, HO_10, HO_12, HO_13, HO_14, HB⟩ := hrel
            cases gk with
            | zero => exact absurd HA.out (by simp [titheref22_Play.l2])
            | succ k4 =>
             have H := HA.out
             clear HA
             simp only [titheref22_Play.l2] at H
             by_cases c31 : x16_4 < (l2.length : Int)
             ·rw [if_pos c31] at H
              have c31b0 : decide (x16_4 < (l2.length : Int)) = true := decide_eq_true c31
              clear c31
              have H' := Aside0.mk H
              clear H
              go_wp2
              go_loopg [17] k4 (fun kq v17 w' => ∃ (x12_5 : List Int) (x13_5 : List Int) (x14_5 : List Int) (x17_5 : Int), v17 = .int .i64 x17_5 ∧ Aside0 (titheref22_Play.l3 kq l0 l2 t235 x12_5 x13_5 x14_5 x16_4 x17_5 = some (r1, r2)) ∧ Aside0 (kq ≤ k4) ∧ Aside0 (Kd.R (Kd.int .i64) 3 w' w.heap.size (fun k_ => some k_ ≠ (v240 : Value).ownBlock ∧ some k_ ≠ (v243 : Value).ownBlock ∧ some k_ ≠ (v246 : Value).ownBlock) v237 t235) ∧ Aside0 (Kd.R (Kd.int .i64) 3 w' w.heap.size (fun k_ => some k_ ≠ (v237 : Value).ownBlock ∧ some k_ ≠ (v243 : Value).ownBlock ∧ some k_ ≠ (v246 : Value).ownBlock) v240 x12_5) ∧ Aside0 (Kd.R (Kd.int .i64) 3 w' w.heap.size (fun k_ => some k_ ≠ (v237 : Value).ownBlock ∧ some k_ ≠ (v240 : Value).ownBlock ∧ some k_ ≠ (v246 : Value).ownBlock) v243 x13_5) ∧ Aside0 (Kd.R (Kd.int .i64) 3 w' w.heap.size (fun k_ => some k_ ≠ (v237 : Value).ownBlock ∧ some k_ ≠ (v240 : Value).ownBlock ∧ some k_ ≠ (v243 : Value).ownBlock) v246 x14_5) ∧ Aside0 (Below w.heap.size w w'))
              case atStart => exact ⟨(x12_4), (x13_4), (x14_4), (0), (by first | rfl | (simp; done) | (simp [*]; done)), H', ⟨Nat.le_refl _⟩, ⟨by (with_reducible repeat (first | apply Kd.R_alloc | apply Kd.R_drewN | apply Kd.R_drew)); exact HO_10.out⟩, ⟨by (with_reducible repeat (first | apply Kd.R_alloc | apply Kd.R_drewN | apply Kd.R_drew)); exact HO_12.out⟩, ⟨by (with_reducible repeat (first | apply Kd.R_alloc | apply Kd.R_drewN | apply Kd.R_drew)); exact HO_13.out⟩, ⟨by (with_reducible repeat (first | apply Kd.R_alloc | apply Kd.R_drewN | apply Kd.R_drew)); exact HO_14.out⟩, ⟨by repeat (first | (with_reducible first | exact HB.out | apply below_alloc | apply pw_below_drewN | apply below_drew1) | exact HB.out)⟩⟩
              case round =>
               clear H'
               try clear c1; try clear c2; try clear p2; try clear q2; try clear hx2; try clear c3; try clear c4; try clear c5; try clear c5b0; try clear c5b1; try clear p6; try clear c8; try clear c8b0; try clear c8b1; try clear c8b2; try clear c9; try clear c10; try clear c10b0; try clear c11; try clear c11b0; try clear c12; try clear c12b0; try clear c13; try clear c13b0; try clear c15; try clear c15b0; try clear c15b1; try clear c16; try clear c16b0; try clear c16b1; try clear c21; try clear p23; try clear q23; try clear hx23; try clear c24; try clear c24b0; try clear p24; try clear q24; try clear hx24; try clear c25; try clear c25b0; try clear c26; try clear c26b0; try clear c27; try clear c27b0; try clear p28; try clear q28; try clear hx28; try clear hf28; try clear c31; try clear c31b0; try clear hx233_0; try clear hx234_0; try clear hx248_0; try clear hx28_0; try clear p2; try clear p23; try clear p233; try clear p234; try clear p24; try clear p248; try clear p28; try clear p6; try clear q2; try clear q23; try clear q233; try clear q234; try clear q24; try clear q248; try clear q28
               obtain ⟨x12_5, x13_5, x14_5, x17_5, rfl, HA, HK5, HO_10, HO_12, HO_13, HO_14, HB⟩ := hrel
               cases gk with
               | zero => exact absurd HA.out (by simp [titheref22_Play.l3])
               | succ k5 =>
                have H := HA.out
                clear HA
                simp only [titheref22_Play.l3] at H
                have HC32 := Aside0.mk H
                clear H
                go_upto_region 23 with (fail)
                go_cut [94] (fun v94 wc => ∃ (kq : Nat) (x94_31 : Bool), v94 = .bool x94_31 ∧ Aside0 (titheref22_Play.j5 kq l0 l2 t235 x12_5 x13_5 x14_5 x16_4 x17_5 x94_31 = some (r1, r2)) ∧ Aside0 (kq ≤ k5) ∧ Aside0 (Kd.R (Kd.int .i64) 3 wc w.heap.size (fun k_ => some k_ ≠ (v240 : Value).ownBlock ∧ some k_ ≠ (v243 : Value).ownBlock ∧ some k_ ≠ (v246 : Value).ownBlock) v237 t235) ∧ Aside0 (Kd.R (Kd.int .i64) 3 wc w.heap.size (fun k_ => some k_ ≠ (v237 : Value).ownBlock ∧ some k_ ≠ (v243 : Value).ownBlock ∧ some k_ ≠ (v246 : Value).ownBlock) v240 x12_5) ∧ Aside0 (Kd.R (Kd.int .i64) 3 wc w.heap.size (fun k_ => some k_ ≠ (v237 : Value).ownBlock ∧ some k_ ≠ (v240 : Value).ownBlock ∧ some k_ ≠ (v246 : Value).ownBlock) v243 x13_5) ∧ Aside0 (Kd.R (Kd.int .i64) 3 wc w.heap.size (fun k_ => some k_ ≠ (v237 : Value).ownBlock ∧ some k_ ≠ (v240 : Value).ownBlock ∧ some k_ ≠ (v243 : Value).ownBlock) v246 x14_5) ∧ Aside0 (Below w.heap.size w wc))
                case first =>
                 have H := HC32.out
                 clear HC32
                 by_cases c33 : x17_5 < (t235.length : Int)
                 ·rw [if_pos c33] at H
                  have c33b0 : decide (x17_5 < (t235.length : Int)) = true := decide_eq_true c33
                  clear c33
                  (first | rw [c33b0] | (simp only [i64_w, i32_w]; rw [c33b0]) | skip)
                  by_cases c34 : 0 ≤ x16_4
                  rotate_left
                  ·rw [if_neg c34] at H; exact absurd H (by simp)
                  rw [if_pos c34] at H
                  have c34b0 : decide (0 ≤ x16_4) = true := decide_eq_true c34
                  clear c34
                  by_cases c35 : x16_4 < (l2.length : Int)
                  rotate_left
                  ·rw [if_neg c35] at H; exact absurd H (by simp)
                  rw [if_pos c35] at H
                  have c35b0 : decide (x16_4 < (l2.length : Int)) = true := decide_eq_true c35
                  clear c35
                  have H' := Aside0.mk H
                  clear H
                  obtain ⟨Ao36, co36, eo36⟩ := Kd.R_slice HO_10.out
                  subst eo36
                  have p250 : 0 ≤ (x16_4 : Int) := of_decide_eq_true (by first | (with_reducible assumption) | assumption)
                  have q250 : x16_4 < (l2.length : Int) := of_decide_eq_true (by first | (with_reducible assumption) | assumption)
                  obtain ⟨ad250, e250, hx250_0⟩ := Kd.at_bool HR2.out x16_4 p250 q250
                  cases e250
                  replace hx250_0 := (HB.out.cell (World.block_lt_of_cell? w _ hx250_0)).trans hx250_0
                  replace p250 := eq_true p250
                  replace q250 := eq_true q250
                  go_wp2
                  go_meet
                  case rel => exact ⟨_, (rdOf false l2 x16_4), (by first | rfl | (simp; done) | (simp [*]; done)), H', ⟨by have := HJ5.out; have := HK2.out; have := HK3.out; have := HK4.out; have := HK5.out; first | omega | exact Nat.le_refl _⟩, ⟨by (with_reducible repeat (first | apply Kd.R_alloc | apply Kd.R_drewN | apply Kd.R_drew)); exact HO_10.out⟩, ⟨by (with_reducible repeat (first | apply Kd.R_alloc | apply Kd.R_drewN | apply Kd.R_drew)); exact HO_12.out⟩, ⟨by (with_reducible repeat (first | apply Kd.R_alloc | apply Kd.R_drewN | apply Kd.R_drew)); exact HO_13.out⟩, ⟨by (with_reducible repeat (first | apply Kd.R_alloc | apply Kd.R_drewN | apply Kd.R_drew)); exact HO_14.out⟩, ⟨by repeat (first | (with_reducible first | exact HB.out | apply below_alloc | apply pw_below_drewN | apply below_drew1) | exact HB.out)⟩⟩
                 ·rw [if_neg c33] at H
                  have c33b0 : decide (x17_5 < (t235.length : Int)) = false := decide_eq_false c33
                  clear c33
                  (first | rw [c33b0] | (simp only [i64_w, i32_w]; rw [c33b0]) | skip)
                  have H' := Aside0.mk H
                  clear H
                  obtain ⟨Ao37, co37, eo37⟩ := Kd.R_slice HO_10.out
                  subst eo37
                  go_wp2
                  go_meet
                  case rel => exact ⟨_, (false), (by first | rfl | (simp; done) | (simp [*]; done)), H', ⟨by have := HJ5.out; have := HK2.out; have := HK3.out; have := HK4.out; have := HK5.out; first | omega | exact Nat.le_refl _⟩, ⟨by (with_reducible repeat (first | apply Kd.R_alloc | apply Kd.R_drewN | apply Kd.R_drew)); exact HO_10.out⟩, ⟨by (with_reducible repeat (first | apply Kd.R_alloc | apply Kd.R_drewN | apply Kd.R_drew)); exact HO_12.out⟩, ⟨by (with_reducible repeat (first | apply Kd.R_alloc | apply Kd.R_drewN | apply Kd.R_drew)); exact HO_13.out⟩, ⟨by (with_reducible repeat (first | apply Kd.R_alloc | apply Kd.R_drewN | apply Kd.R_drew)); exact HO_14.out⟩, ⟨by repeat (first | (with_reducible first | exact HB.out | apply below_alloc | apply pw_below_drewN | apply below_drew1) | exact HB.out)⟩⟩
                case rest =>
                 clear HC32
                 try clear c1; try clear c2; try clear p2; try clear q2; try clear hx2; try clear c3; try clear c4; try clear c5; try clear c5b0; try clear c5b1; try clear p6; try clear c8; try clear c8b0; try clear c8b1; try clear c8b2; try clear c9; try clear c10; try clear c10b0; try clear c11; try clear c11b0; try clear c12; try clear c12b0; try clear c13; try clear c13b0; try clear c15; try clear c15b0; try clear c15b1; try clear c16; try clear c16b0; try clear c16b1; try clear c21; try clear p23; try clear q23; try clear hx23; try clear c24; try clear c24b0; try clear p24; try clear q24; try clear hx24; try clear c25; try clear c25b0; try clear p25; try clear q25; try clear hx25; try clear c26; try clear c26b0; try clear c27; try clear c27b0; try clear p28; try clear q28; try clear hx28; try clear hf28; try clear c31; try clear c31b0; try clear c33; try clear c33b0; try clear c34; try clear c34b0; try clear c35; try clear c35b0; try clear hx233_0; try clear hx234_0; try clear hx248_0; try clear hx250_0; try clear hx28_0; try clear p2; try clear p23; try clear p233; try clear p234; try clear p24; try clear p248; try clear p250; try clear p28; try clear p6; try clear q2; try clear q23; try clear q233; try clear q234; try clear q24; try clear q248; try clear q250; try clear q28
                 obtain ⟨kq, x94_31, rfl, HA, HJ31, HO_10, HO_12, HO_13, HO_14, HB⟩ := hcut
                 cases kq with
                 | zero => exact absurd HA.out (by simp [titheref22_Play.j5])
                 | succ kj31 =>
                  have H := HA.out
                  clear HA
                  simp only [titheref22_Play.j5] at H
                  by_cases c38 : x94_31 = true
                  ·subst c38
                   have H1 : (if 0 ≤ x17_5 then (if x17_5 < (t235.length : Int) then (if 0 ≤ (rd t235 x17_5) then (if (rd t235 x17_5) < (x13_5.length : Int) then (if (rd x13_5 (rd t235 x17_5)) > x16_4 then (titheref22_Play.l3 kj31 l0 l2 t235 x12_5 x13_5 x14_5 x16_4 (wrap64 (x17_5 + 1))) else (if (rd t235 x17_5) < (x14_5.length : Int) then ((some (x14_5.set ((rd t235 x17_5) : Int).toNat (wrap64 ((rd x14_5 (rd t235 x17_5)) + 1)) : List Int)).bind fun y254 => (if (rd t235 x17_5) < (l0.length : Int) then (if (rd y254 (rd t235 x17_5)) = ((rd_T43 l0 (rd t235 x17_5)).f1) then (if (rd t235 x17_5) < (x12_5.length : Int) then (titheref22_Play.l2 kj31 l0 l2 t235 (x12_5.set ((rd t235 x17_5) : Int).toNat (mx (rd x12_5 (rd t235 x17_5)) (wrap64 ((wrap64 (x16_4 + 1)) - (rd x13_5 (rd t235 x17_5)))))) (x13_5.set ((rd t235 x17_5) : Int).toNat (wrap64 ((rd x13_5 (rd t235 x17_5)) + ((rd_T43 l0 (rd t235 x17_5)).f0)))) (y254.set ((rd t235 x17_5) : Int).toNat 0) (wrap64 (x16_4 + 1))) else (none)) else (titheref22_Play.l2 kj31 l0 l2 t235 x12_5 x13_5 y254 (wrap64 (x16_4 + 1)))) else (none))) else (none))) else (none)) else (none)) else (none)) else (none)) = some (r1, r2) := by rw [if_pos rfl] at H; exact H
                   clear H
                   have H := H1
                   clear H1
                   by_cases c39 : 0 ≤ x17_5
                   rotate_left
                   ·rw [if_neg c39] at H; exact absurd H (by simp)
                   rw [if_pos c39] at H
                   have c39b0 : decide (0 ≤ x17_5) = true := decide_eq_true c39
                   clear c39
                   by_cases c40 : x17_5 < (t235.length : Int)
                   rotate_left
                   ·rw [if_neg c40] at H; exact absurd H (by simp)
                   rw [if_pos c40] at H
                   have c40b0 : decide (x17_5 < (t235.length : Int)) = true := decide_eq_true c40
                   clear c40
                   by_cases c41 : 0 ≤ (rd t235 x17_5)
                   rotate_left
                   ·rw [if_neg c41] at H; exact absurd H (by simp)
                   rw [if_pos c41] at H
                   have c41b0 : decide (0 ≤ (rd t235 x17_5)) = true := decide_eq_true c41
                   clear c41
                   by_cases c42 : (rd t235 x17_5) < (x13_5.length : Int)
                   rotate_left
                   ·rw [if_neg c42] at H; exact absurd H (by simp)
                   rw [if_pos c42] at H
                   have c42b0 : decide ((rd t235 x17_5) < (x13_5.length : Int)) = true := decide_eq_true c42
                   clear c42
                   by_cases c43 : (rd x13_5 (rd t235 x17_5)) > x16_4
                   ·rw [if_pos c43] at H
                    have c43b0 : decide (x16_4 < (rd x13_5 (rd t235 x17_5))) = true := decide_eq_true c43
                    clear c43
                    have H' := Aside0.mk H
                    clear H
                    obtain ⟨Ao44, co44, eo44⟩ := Kd.R_slice HO_10.out
                    subst eo44
                    have p251 : 0 ≤ (x17_5 : Int) := of_decide_eq_true (by first | (with_reducible assumption) | assumption)
                    have q251 : x17_5 < (t235.length : Int) := of_decide_eq_true (by first | (with_reducible assumption) | assumption)
                    obtain ⟨ad251, e251, hx251_0⟩ := Kd.at_int (Kd.R_reads' HO_10.out).2.2 x17_5 p251 q251
                    cases e251
                    replace p251 := eq_true p251
                    replace q251 := eq_true q251
                    obtain ⟨Ao45, co45, eo45⟩ := Kd.R_slice HO_13.out
                    subst eo45
                    have p252 : 0 ≤ ((rd t235 x17_5) : Int) := of_decide_eq_true (by first | (with_reducible assumption) | assumption)
                    have q252 : (rd t235 x17_5) < (x13_5.length : Int) := of_decide_eq_true (by first | (with_reducible assumption) | assumption)
                    obtain ⟨ad252, e252, hx252_0⟩ := Kd.at_int (Kd.R_reads' HO_13.out).2.2 (rd t235 x17_5) p252 q252
                    cases e252
                    replace p252 := eq_true p252
                    replace q252 := eq_true q252
                    go_wp2
                    go_roundg kj31
                    case measure => have := HJ5.out; have := HK2.out; have := HK3.out; have := HK4.out; have := HK5.out; have := HJ31.out; omega
                    case rel => exact ⟨(x12_5), (x13_5), (x14_5), (wrap64 (x17_5 + 1)), (by first | rfl | (simp; done) | (simp [*]; done)), H', ⟨by have := HJ5.out; have := HK2.out; have := HK3.out; have := HK4.out; have := HK5.out; have := HJ31.out; omega⟩, ⟨by (with_reducible repeat (first | apply Kd.R_alloc | apply Kd.R_drewN | apply Kd.R_drew)); exact HO_10.out⟩, ⟨by (with_reducible repeat (first | apply Kd.R_alloc | apply Kd.R_drewN | apply Kd.R_drew)); exact HO_12.out⟩, ⟨by (with_reducible repeat (first | apply Kd.R_alloc | apply Kd.R_drewN | apply Kd.R_drew)); exact HO_13.out⟩, ⟨by (with_reducible repeat (first | apply Kd.R_alloc | apply Kd.R_drewN | apply Kd.R_drew)); exact HO_14.out⟩, ⟨by repeat (first | (with_reducible first | exact HB.out | apply below_alloc | apply pw_below_drewN | apply below_drew1) | exact HB.out)⟩⟩
                   ·rw [if_neg c43] at H
                    have c43b0 : decide (x16_4 < (rd x13_5 (rd t235 x17_5))) = false := decide_eq_false c43
                    clear c43
                    by_cases c46 : (rd t235 x17_5) < (x14_5.length : Int)
                    rotate_left
                    ·rw [if_neg c46] at H; exact absurd H (by simp)
                    rw [if_pos c46] at H
                    have c46b0 : decide ((rd t235 x17_5) < (x14_5.length : Int)) = true := decide_eq_true c46
                    clear c46
                    obtain ⟨y254, hy254⟩ : ∃ y_ : List Int, y_ = (x14_5.set ((rd t235 x17_5) : Int).toNat (wrap64 ((rd x14_5 (rd t235 x17_5)) + 1))) := ⟨_, rfl⟩
                    replace H : (if (rd t235 x17_5) < (l0.length : Int) then (if (rd y254 (rd t235 x17_5)) = ((rd_T43 l0 (rd t235 x17_5)).f1) then (if (rd t235 x17_5) < (x12_5.length : Int) then (titheref22_Play.l2 kj31 l0 l2 t235 (x12_5.set ((rd t235 x17_5) : Int).toNat (mx (rd x12_5 (rd t235 x17_5)) (wrap64 ((wrap64 (x16_4 + 1)) - (rd x13_5 (rd t235 x17_5)))))) (x13_5.set ((rd t235 x17_5) : Int).toNat (wrap64 ((rd x13_5 (rd t235 x17_5)) + ((rd_T43 l0 (rd t235 x17_5)).f0)))) (y254.set ((rd t235 x17_5) : Int).toNat 0) (wrap64 (x16_4 + 1))) else (none)) else (titheref22_Play.l2 kj31 l0 l2 t235 x12_5 x13_5 y254 (wrap64 (x16_4 + 1)))) else (none)) = some (r1, r2) := by first | (rw [hy254]; with_reducible exact H) | (have H2_ := (Option.bind_some _ _).symm.trans H; rw [hy254]; with_reducible exact H2_) | (have H2_ := (Option.bind_some _ _).symm.trans H; with_reducible exact H2_) | with_reducible exact H | (rw [hy254]; exact H) | exact H
                    have Ny254 := Aside0.mk hy254
                    clear hy254
                    by_cases c48 : (rd t235 x17_5) < (l0.length : Int)
                    rotate_left
                    ·rw [if_neg c48] at H; exact absurd H (by simp)
                    rw [if_pos c48] at H
                    have c48b0 : decide ((rd t235 x17_5) < (l0.length : Int)) = true := decide_eq_true c48
                    clear c48
                    by_cases c49 : (rd y254 (rd t235 x17_5)) = ((rd_T43 l0 (rd t235 x17_5)).f1)
                    ·rw [if_pos c49] at H
                     have c49b0 : ((rd y254 (rd t235 x17_5)) == ((rd_T43 l0 (rd t235 x17_5)).f1)) = true := beq_iff_eq.mpr c49
                     have c49b1 : ((rd y254 (rd t235 x17_5)) != ((rd_T43 l0 (rd t235 x17_5)).f1)) = false := bne_eq_false_iff_eq.mpr c49
                     clear c49
                     by_cases c50 : (rd t235 x17_5) < (x12_5.length : Int)
                     rotate_left
                     ·rw [if_neg c50] at H; exact absurd H (by simp)
                     rw [if_pos c50] at H
                     have c50b0 : decide ((rd t235 x17_5) < (x12_5.length : Int)) = true := decide_eq_true c50
                     clear c50
                     obtain ⟨ji51, hji51⟩ : ∃ j_ : Int, (mx (rd x12_5 (rd t235 x17_5)) (wrap64 ((wrap64 (x16_4 + 1)) - (rd x13_5 (rd t235 x17_5))))) = j_ := ⟨_, rfl⟩
                     replace H : (titheref22_Play.l2 kj31 l0 l2 t235 (x12_5.set ((rd t235 x17_5) : Int).toNat (ji51)) (x13_5.set ((rd t235 x17_5) : Int).toNat (wrap64 ((rd x13_5 (rd t235 x17_5)) + ((rd_T43 l0 (rd t235 x17_5)).f0)))) (y254.set ((rd t235 x17_5) : Int).toNat 0) (wrap64 (x16_4 + 1))) = some (r1, r2) := by first | (rw [hji51] at H; exact H) | (simp only [hji51] at H ⊢; exact H)
                     have hji51_ : (if (rd x12_5 (rd t235 x17_5)) < (wrap64 ((wrap64 (x16_4 + 1)) - (rd x13_5 (rd t235 x17_5)))) then (wrap64 ((wrap64 (x16_4 + 1)) - (rd x13_5 (rd t235 x17_5)))) else (rd x12_5 (rd t235 x17_5))) = ji51 := hji51
                     obtain ⟨y259, hy259⟩ : ∃ y_ : List Int, y_ = (x12_5.set ((rd t235 x17_5) : Int).toNat (ji51)) := ⟨_, rfl⟩
                     replace H : (titheref22_Play.l2 kj31 l0 l2 t235 y259 (x13_5.set ((rd t235 x17_5) : Int).toNat (wrap64 ((rd x13_5 (rd t235 x17_5)) + ((rd_T43 l0 (rd t235 x17_5)).f0)))) (y254.set ((rd t235 x17_5) : Int).toNat 0) (wrap64 (x16_4 + 1))) = some (r1, r2) := by first | (rw [hy259]; with_reducible exact H) | (have H2_ := (Option.bind_some _ _).symm.trans H; rw [hy259]; with_reducible exact H2_) | (have H2_ := (Option.bind_some _ _).symm.trans H; with_reducible exact H2_) | with_reducible exact H | (rw [hy259]; exact H) | exact H
                     have Ny259 := Aside0.mk hy259
                     clear hy259
                     obtain ⟨y262, hy262⟩ : ∃ y_ : List Int, y_ = (x13_5.set ((rd t235 x17_5) : Int).toNat (wrap64 ((rd x13_5 (rd t235 x17_5)) + ((rd_T43 l0 (rd t235 x17_5)).f0)))) := ⟨_, rfl⟩
                     replace H : (titheref22_Play.l2 kj31 l0 l2 t235 y259 y262 (y254.set ((rd t235 x17_5) : Int).toNat 0) (wrap64 (x16_4 + 1))) = some (r1, r2) := by first | (rw [hy262]; with_reducible exact H) | (have H2_ := (Option.bind_some _ _).symm.trans H; rw [hy262]; with_reducible exact H2_) | (have H2_ := (Option.bind_some _ _).symm.trans H; with_reducible exact H2_) | with_reducible exact H | (rw [hy262]; exact H) | exact H
                     have Ny262 := Aside0.mk hy262
                     clear hy262
                     obtain ⟨y263, hy263⟩ : ∃ y_ : List Int, y_ = (y254.set ((rd t235 x17_5) : Int).toNat 0) := ⟨_, rfl⟩
                     replace H : (titheref22_Play.l2 kj31 l0 l2 t235 y259 y262 y263 (wrap64 (x16_4 + 1))) = some (r1, r2) := by first | (rw [hy263]; with_reducible exact H) | (have H2_ := (Option.bind_some _ _).symm.trans H; rw [hy263]; with_reducible exact H2_) | (have H2_ := (Option.bind_some _ _).symm.trans H; with_reducible exact H2_) | with_reducible exact H | (rw [hy263]; exact H) | exact H
                     have Ny263 := Aside0.mk hy263
                     clear hy263
                     have H' := Aside0.mk H
                     clear H
                     obtain ⟨Ao55, co55, eo55⟩ := Kd.R_slice HO_10.out
                     subst eo55
                     have p251 : 0 ≤ (x17_5 : Int) := of_decide_eq_true (by first | (with_reducible assumption) | assumption)
                     have q251 : x17_5 < (t235.length : Int) := of_decide_eq_true (by first | (with_reducible assumption) | assumption)
                     obtain ⟨ad251, e251, hx251_0⟩ := Kd.at_int (Kd.R_reads' HO_10.out).2.2 x17_5 p251 q251
                     cases e251
                     replace p251 := eq_true p251
                     replace q251 := eq_true q251
                     obtain ⟨Ao56, co56, eo56⟩ := Kd.R_slice HO_13.out
                     subst eo56
                     have p252 : 0 ≤ ((rd t235 x17_5) : Int) := of_decide_eq_true (by first | (with_reducible assumption) | assumption)
                     have q252 : (rd t235 x17_5) < (x13_5.length : Int) := of_decide_eq_true (by first | (with_reducible assumption) | assumption)
                     obtain ⟨ad252, e252, hx252_0⟩ := Kd.at_int (Kd.R_reads' HO_13.out).2.2 (rd t235 x17_5) p252 q252
                     cases e252
                     replace p252 := eq_true p252
                     replace q252 := eq_true q252
                     obtain ⟨Ao57, co57, eo57⟩ := Kd.R_slice HO_14.out
                     subst eo57
                     have p253 : 0 ≤ ((rd t235 x17_5) : Int) := of_decide_eq_true (by first | (with_reducible assumption) | assumption)
                     have q253 : (rd t235 x17_5) < (x14_5.length : Int) := of_decide_eq_true (by first | (with_reducible assumption) | assumption)
                     obtain ⟨ad253, e253, hx253_0⟩ := Kd.at_int (Kd.R_reads' HO_14.out).2.2 (rd t235 x17_5) p253 q253
                     cases e253
                     replace p253 := eq_true p253
                     replace q253 := eq_true q253
                     have p47 : 0 ≤ ((rd t235 x17_5) : Int) := of_decide_eq_true (by first | (with_reducible assumption) | assumption)
                     have q47 : ((rd t235 x17_5) : Int) < ((x14_5.length : Int) : Int) := of_decide_eq_true (by first | (with_reducible assumption) | assumption)
                     obtain ⟨go47, co47, eo47, gb47, gl47, cl47, HG47⟩ := Kd.R_form HO_14.out (by omega)
                     (first | cases eo47 | (injection eo47 with ea_ en_ ec_; (first | subst ea_ | (injection ea_ with ea_; subst ea_)); subst ec_; clear en_))
                     have GB47 := Aside0.mk gb47
                     have GG47 := Aside0.mk HG47
                     clear gb47 gl47 HG47
                     (first | simp only [add_plain] at hx253_0 | skip)
                     obtain ⟨hx47_0, hf47_0⟩ := Kd.R_celln 0 HO_14.out ((rd t235 x17_5) : Int) p47 q47
                     replace p47 := eq_true p47
                     replace q47 := eq_true q47
                     have HP58 := Kd.R_putg HO_14.out ((rd t235 x17_5) : Int) (wrap64 ((rd x14_5 (rd t235 x17_5)) + 1))
                     try go_wp2_with (first | ((with_reducible refine gate_store (t := 3) (p := 112) rfl ?_); refine store_event (t := 3) (p := 112) (v := ?vo_w59) (w1 := (wc.setCell ⟨go47, ((rd t235 x17_5) : Int).toNat, none⟩ (.int .i64 (wrap64 ((rd x14_5 (rd t235 x17_5)) + 1))))) ?hg ?ho ?hn ?hr ?_; (case ho => rfl); (case hg => rfl); (case hn => rfl); (case hr => first | (go_simp; done) | (go_simp; rfl)); intro w59 hw; have hg : wc.grownBy w59 (some go47) := (by rw [hw]; exact HP58.2); have hp_ : Kd.R (Kd.int .i64) 3 w59 w.heap.size (fun k_ => some k_ ≠ (.slice (some ad251) t235.length co55 : Value).ownBlock ∧ some k_ ≠ (v240 : Value).ownBlock ∧ some k_ ≠ (.slice (some ad252) x13_5.length co56 : Value).ownBlock) (.slice (some ⟨go47, 0, none⟩) x14_5.length co57) y254 := (by rw [hw, Ny254.out]; exact HP58.1); clear HP58; have n0_ := Aside0.mk (Kd.R_after (v := (.slice (some ⟨go47, 0, none⟩) x14_5.length co57)) (v1 := (.slice (some ⟨go47, 0, none⟩) x14_5.length co57)) (ok := (fun k_ => some k_ ≠ (v240 : Value).ownBlock ∧ some k_ ≠ (.slice (some ad252) x13_5.length co56 : Value).ownBlock)) (by (with_reducible repeat (first | apply Kd.R_alloc | apply Kd.R_drewN | apply Kd.R_drew)); exact Kd.R_mono HO_10.out (fun _ hk => ⟨⟨hk.1, hk.2.1⟩, hk.2.2⟩)) hg (.inl rfl)); have n1_ := Aside0.mk (Kd.R_after (v := (.slice (some ⟨go47, 0, none⟩) x14_5.length co57)) (v1 := (.slice (some ⟨go47, 0, none⟩) x14_5.length co57)) (ok := (fun k_ => some k_ ≠ (.slice (some ad251) t235.length co55 : Value).ownBlock ∧ some k_ ≠ (.slice (some ad252) x13_5.length co56 : Value).ownBlock)) (by (with_reducible repeat (first | apply Kd.R_alloc | apply Kd.R_drewN | apply Kd.R_drew)); exact Kd.R_mono HO_12.out (fun _ hk => ⟨⟨hk.1, hk.2.1⟩, hk.2.2⟩)) hg (.inl rfl)); have n2_ := Aside0.mk (Kd.R_after (v := (.slice (some ⟨go47, 0, none⟩) x14_5.length co57)) (v1 := (.slice (some ⟨go47, 0, none⟩) x14_5.length co57)) (ok := (fun k_ => some k_ ≠ (.slice (some ad251) t235.length co55 : Value).ownBlock ∧ some k_ ≠ (v240 : Value).ownBlock)) (by (with_reducible repeat (first | apply Kd.R_alloc | apply Kd.R_drewN | apply Kd.R_drew)); exact Kd.R_mono HO_13.out (fun _ hk => ⟨⟨hk.1, hk.2.1⟩, hk.2.2⟩)) hg (.inl rfl)); have n3_ := Aside0.mk (hp_); have n4_ := Aside0.mk ((by rw [hw]; exact below_set (HB.out) GB47.out : Below w.heap.size w w59)); clear HO_10; clear HO_12; clear HO_13; clear HO_14; clear HB; have HO_10 := n0_; have HO_12 := n1_; have HO_13 := n2_; have HO_14 := n3_; have HB := n4_; clear n0_ n1_ n2_ n3_ n4_; clear hg hw hp_))
                     have n0_ := Aside0.mk (Kd.R_drew HO_10.out)
                     have n1_ := Aside0.mk (Kd.R_drew HO_12.out)
                     have n2_ := Aside0.mk (Kd.R_drew HO_13.out)
                     have n3_ := Aside0.mk (Kd.R_drew HO_14.out)
                     have n4_ := Aside0.mk (below_drew1 HB.out)
                     clear HO_10
                     clear HO_12
                     clear HO_13
                     clear HO_14
                     clear HB
                     have HO_10 := n0_
                     have HO_12 := n1_
                     have HO_13 := n2_
                     have HO_14 := n3_
                     have HB := n4_
                     clear n0_ n1_ n2_ n3_ n4_
                     have p255 : 0 ≤ ((rd t235 x17_5) : Int) := of_decide_eq_true (by first | (with_reducible assumption) | assumption)
                     have q255 : (rd t235 x17_5) < (y254.length : Int) := (by have h_ : ((rd t235 x17_5) : Int) < ((x14_5.length : Int) : Int) := of_decide_eq_true (by first | (with_reducible assumption) | assumption); first | (have e_ := (Kd.R_reads' HO_14.out).1; omega) | simpa only [Ny254.out, List.length_set] using h_)
                     have ql255 : (((rd t235 x17_5) : Int) < ((x14_5.length : Int) : Int)) = True := eq_true (of_decide_eq_true (by first | (with_reducible assumption) | assumption))
                     obtain ⟨ad255, e255, hx255_0⟩ := Kd.at_int (Kd.R_reads' HO_14.out).2.2 (rd t235 x17_5) p255 q255
                     obtain rfl : (⟨go47, 0, none⟩ : Addr) = ad255 := (by injection e255)
                     (first | simp only [add_plain] at hx255_0 | simp only [add_at] at hx255_0 | simp only [Addr.add, Nat.zero_add] at hx255_0 | skip)
                     replace p255 := eq_true p255
                     replace q255 := eq_true q255
                     have p256 : 0 ≤ ((rd t235 x17_5) : Int) := of_decide_eq_true (by first | (with_reducible assumption) | assumption)
                     have q256 : (rd t235 x17_5) < (l0.length : Int) := of_decide_eq_true (by first | (with_reducible assumption) | assumption)
                     obtain ⟨ad256, e256, hx256_0, hx256_1, hx256_2, hx256_3⟩ := at_T43 HR0.out (rd t235 x17_5) p256 q256
                     have hw256_3 := hx256_3
                     have hw256_2 := hx256_2
                     have hw256_1 := hx256_1
                     have hw256_0 := hx256_0
                     cases e256
                     replace hx256_0 := (HB.out.cell (World.block_lt_of_cell? w _ hx256_0)).trans hx256_0
                     replace hx256_1 := (HB.out.cell (World.block_lt_of_cell? w _ hx256_1)).trans hx256_1
                     replace hx256_2 := (HB.out.cell (World.block_lt_of_cell? w _ hx256_2)).trans hx256_2
                     replace hx256_3 := (HB.out.cell (World.block_lt_of_cell? w _ hx256_3)).trans hx256_3
                     replace p256 := eq_true p256
                     replace q256 := eq_true q256
                     refine start_ (n := 10) (S := fun w' => w'.cell? ⟨go47, ((rd t235 x17_5)).toNat, none⟩ = some (.int .i64 (rd y254 (rd t235 x17_5))) ∧ w'.cell? (ad256.add (((rd t235 x17_5)).toNat * 4)) = some (.int .i64 ((rd_T43 l0 (rd t235 x17_5)).f0)) ∧ w'.cell? ⟨(ad256.add (((rd t235 x17_5)).toNat * 4)).block, (ad256.add (((rd t235 x17_5)).toNat * 4)).off + 1, none⟩ = some (.int .i64 ((rd_T43 l0 (rd t235 x17_5)).f1)) ∧ w'.cell? ⟨(ad256.add (((rd t235 x17_5)).toNat * 4)).block, (ad256.add (((rd t235 x17_5)).toNat * 4)).off + 2, none⟩ = some (.int .i64 ((rd_T43 l0 (rd t235 x17_5)).f2)) ∧ w'.cell? ⟨(ad256.add (((rd t235 x17_5)).toNat * 4)).block, (ad256.add (((rd t235 x17_5)).toNat * 4)).off + 3, none⟩ = some (.int .i64 ((rd_T43 l0 (rd t235 x17_5)).f3))) (ds := []) #[false, false, false, false, false, false, false, false, false, false] (by kernel_rfl) rfl rfl ⟨hx255_0, ((HB.out.cell (World.block_lt_of_cell? w _ hw256_0)).trans hw256_0), ((HB.out.cell (World.block_lt_of_cell? w _ hw256_1)).trans hw256_1), ((HB.out.cell (World.block_lt_of_cell? w _ hw256_2)).trans hw256_2), ((HB.out.cell (World.block_lt_of_cell? w _ hw256_3)).trans hw256_3)⟩ (fun hHeld => ?_); refine with_tabW titheref22_Play.tab28 titheref22_Play.bits28 (fun HT_ HW_ => ?_)
                     generalize w59.drew = w60 at HO_10 HO_12 HO_13 HO_14 HB hx255_0 hx256_0 hx256_1 hx256_2 hx256_3 hHeld ⊢
                     refine pure_ (i := 0) (N := some 113) (v := ?_) (a' := ?_) #[true, false, false, false, false, false, false, false, false, false] rfl rfl (any_of HT_.out (by kernel_rfl)) (fun _ _ _ h => h) (Or.inl ⟨by rfl, ?_⟩) ?_ ?_; rotate_left; intro w'; go_simp; with_reducible rfl; rotate_left; simp only [Act.put, List.setIfInBounds_toArray, List.set_cons_zero, List.set_cons_succ, i64_w, i32_w]; rfl
                     refine pure_ (i := 1) (N := some 114) (v := ?_) (a' := ?_) #[true, true, false, false, false, false, false, false, false, false] rfl rfl (any_of HT_.out (by kernel_rfl)) (fun _ _ _ h => h) (Or.inl ⟨by rfl, ?_⟩) ?_ ?_; rotate_left; intro w'; go_simp; with_reducible rfl; rotate_left; simp only [Act.put, List.setIfInBounds_toArray, List.set_cons_zero, List.set_cons_succ, i64_w, i32_w]; rfl
                     refine pure_ (i := 2) (N := some 115) (v := ?_) (a' := ?_) #[true, true, true, false, false, false, false, false, false, false] rfl rfl (any_of HT_.out (by kernel_rfl)) (fun _ _ _ h => h) (Or.inl ⟨by rfl, ?_⟩) ?_ ?_; rotate_left; intro w'; go_simp; with_reducible rfl; rotate_left; simp only [Act.put, List.setIfInBounds_toArray, List.set_cons_zero, List.set_cons_succ, i64_w, i32_w]; rfl
                     refine pure_ (i := 4) (N := some 117) (v := ?_) (a' := ?_) #[true, true, true, false, true, false, false, false, false, false] rfl rfl (any_of HT_.out (by kernel_rfl)) (fun _ _ _ h => h) (Or.inl ⟨by rfl, ?_⟩) ?_ ?_; rotate_left; intro w'; go_simp; with_reducible rfl; rotate_left; simp only [Act.put, List.setIfInBounds_toArray, List.set_cons_zero, List.set_cons_succ, i64_w, i32_w]; rfl
                     refine pure_ (i := 5) (N := some 118) (v := ?_) (a' := ?_) #[true, true, true, false, true, true, false, false, false, false] rfl rfl (any_of HT_.out (by kernel_rfl)) (fun _ _ _ h => h) (Or.inl ⟨by rfl, ?_⟩) ?_ ?_; rotate_left; intro w'; go_simp; with_reducible rfl; rotate_left; simp only [Act.put, List.setIfInBounds_toArray, List.set_cons_zero, List.set_cons_succ, i64_w, i32_w]; rfl
                     refine pure_ (i := 6) (N := some 119) (v := ?_) (a' := ?_) #[true, true, true, false, true, true, true, false, false, false] rfl rfl (any_of HT_.out (by kernel_rfl)) (fun _ _ _ h => h) (Or.inl ⟨by rfl, ?_⟩) ?_ ?_; rotate_left; intro w'; go_simp; with_reducible rfl; rotate_left; simp only [Act.put, List.setIfInBounds_toArray, List.set_cons_zero, List.set_cons_succ, i64_w, i32_w]; rfl
                     refine pure_ (i := 7) (N := some 120) (v := ?_) (a' := ?_) #[true, true, true, false, true, true, true, true, false, false] rfl rfl (any_of HT_.out (by kernel_rfl)) (fun _ _ _ h => h) (Or.inl ⟨by rfl, ?_⟩) ?_ ?_; rotate_left; intro w'; go_simp; with_reducible rfl; rotate_left; simp only [Act.put, List.setIfInBounds_toArray, List.set_cons_zero, List.set_cons_succ, i64_w, i32_w]; rfl
                     refine take_ (i := 3) (N := some 116) (v := ?_) (a' := ?_) #[true, true, true, true, true, true, true, true, false, false] rfl rfl (take_ofW HT_.out HW_.out (by kernel_rfl)) (fun _ _ _ h => h) (Or.inl ⟨by rfl, ?_⟩) hHeld ?_ ?_
                     rotate_left
                     ·rintro w' ⟨s0, s1, s2, s3, s4⟩
                      go_simp
                      with_reducible rfl
                     rotate_left
                     ·simp only [Act.put, List.setIfInBounds_toArray, List.set_cons_zero, List.set_cons_succ, i64_w, i32_w]
                      rfl
                     refine take_ (i := 8) (N := some 121) (v := ?_) (a' := ?_) #[true, true, true, true, true, true, true, true, true, false] rfl rfl (take_ofW HT_.out HW_.out (by kernel_rfl)) (fun _ _ _ h => h) (Or.inl ⟨by rfl, ?_⟩) hHeld ?_ ?_
                     rotate_left
                     ·rintro w' ⟨s0, s1, s2, s3, s4⟩
                      go_simp
                      with_reducible rfl
                     rotate_left
                     ·simp only [Act.put, List.setIfInBounds_toArray, List.set_cons_zero, List.set_cons_succ, i64_w, i32_w]
                      rfl
                     refine pure_ (i := 9) (N := some 122) (v := ?_) (a' := ?_) #[true, true, true, true, true, true, true, true, true, true] rfl rfl (any_of HT_.out (by kernel_rfl)) (fun _ _ _ h => h) (Or.inl ⟨by rfl, ?_⟩) ?_ ?_; rotate_left; intro w'; go_simp; with_reducible rfl; rotate_left; simp only [Act.put, List.setIfInBounds_toArray, List.set_cons_zero, List.set_cons_succ, i64_w, i32_w]; rfl
                     refine done_ (done_of HT_.out (by kernel_rfl)) ?_
                     try go_wp2
                     have n0_ := Aside0.mk (Kd.R_drew HO_10.out)
                     have n1_ := Aside0.mk (Kd.R_drew HO_12.out)
                     have n2_ := Aside0.mk (Kd.R_drew HO_13.out)
                     have n3_ := Aside0.mk (Kd.R_drew HO_14.out)
                     have n4_ := Aside0.mk (below_drew1 HB.out)
                     clear HO_10
                     clear HO_12
                     clear HO_13
                     clear HO_14
                     clear HB
                     have HO_10 := n0_
                     have HO_12 := n1_
                     have HO_13 := n2_
                     have HO_14 := n3_
                     have HB := n4_
                     clear n0_ n1_ n2_ n3_ n4_
                     obtain ⟨Ao62, co62, eo62⟩ := Kd.R_slice HO_12.out
                     (first | subst eo62 | (injection eo62 with f1_ f2_ f3_; have f4_ := f1_.symm; have f5_ := f3_.symm; clear f1_ f2_ f3_; subst f4_; subst f5_))
                     have p257 : 0 ≤ ((rd t235 x17_5) : Int) := of_decide_eq_true (by first | (with_reducible assumption) | assumption)
                     have q257 : (rd t235 x17_5) < (x12_5.length : Int) := of_decide_eq_true (by first | (with_reducible assumption) | assumption)
                     obtain ⟨ad257, e257, hx257_0⟩ := Kd.at_int (Kd.R_reads' HO_12.out).2.2 (rd t235 x17_5) p257 q257
                     cases e257
                     replace p257 := eq_true p257
                     replace q257 := eq_true q257
                     have p258 : 0 ≤ ((rd t235 x17_5) : Int) := of_decide_eq_true (by first | (with_reducible assumption) | assumption)
                     have q258 : (rd t235 x17_5) < (x13_5.length : Int) := of_decide_eq_true (by first | (with_reducible assumption) | assumption)
                     obtain ⟨ad258, e258, hx258_0⟩ := Kd.at_int (Kd.R_reads' HO_13.out).2.2 (rd t235 x17_5) p258 q258
                     obtain rfl : ad252 = ad258 := (by injection e258)
                     replace p258 := eq_true p258
                     replace q258 := eq_true q258
                     have p52 : 0 ≤ ((rd t235 x17_5) : Int) := of_decide_eq_true (by first | (with_reducible assumption) | assumption)
                     have q52 : ((rd t235 x17_5) : Int) < ((x12_5.length : Int) : Int) := of_decide_eq_true (by first | (with_reducible assumption) | assumption)
                     obtain ⟨go52, co52, eo52, gb52, gl52, cl52, HG52⟩ := Kd.R_form HO_12.out (by omega)
                     (first | cases eo52 | (injection eo52 with ea_ en_ ec_; (first | subst ea_ | (injection ea_ with ea_; subst ea_)); subst ec_; clear en_))
                     have GB52 := Aside0.mk gb52
                     have GG52 := Aside0.mk HG52
                     clear gb52 gl52 HG52
                     (first | simp only [add_plain] at hx257_0 | skip)
                     obtain ⟨hx52_0, hf52_0⟩ := Kd.R_celln 0 HO_12.out ((rd t235 x17_5) : Int) p52 q52
                     replace p52 := eq_true p52
                     replace q52 := eq_true q52
                     have HP63 := Kd.R_putn HO_12.out ((rd t235 x17_5) : Int) ji51
                     rw [← Ny259.out] at HP63
                     have HQ63 := Aside0.mk HP63
                     clear HP63
                     refine start_ (n := 16) (S := fun w' => w'.cell? ⟨go52, ((rd t235 x17_5)).toNat, none⟩ = some (.int .i64 (rd x12_5 (rd t235 x17_5))) ∧ w'.cell? (ad252.add ((rd t235 x17_5)).toNat) = some (.int .i64 (rd x13_5 (rd t235 x17_5)))) (ds := [15]) #[false, false, false, false, false, false, false, false, false, false, false, false, false, false, false, false] (by kernel_rfl) rfl rfl ⟨hx257_0, hx258_0⟩ (fun hHeld => ?_); refine with_tabW titheref22_Play.tab29 titheref22_Play.bits29 (fun HT_ HW_ => ?_)
                     generalize w60.drew = w61 at HO_10 HO_12 HO_13 HO_14 HB GG52 HQ63 hf52_0 hx257_0 hx258_0 hx52_0 hHeld ⊢
                     refine pure_ (i := 0) (N := some 123) (v := ?_) (a' := ?_) #[true, false, false, false, false, false, false, false, false, false, false, false, false, false, false, false] rfl rfl (any_of HT_.out (by kernel_rfl)) (fun _ _ _ h => h) (Or.inl ⟨by rfl, ?_⟩) ?_ ?_; rotate_left; intro w'; go_simp; with_reducible rfl; rotate_left; simp only [Act.put, List.setIfInBounds_toArray, List.set_cons_zero, List.set_cons_succ, i64_w, i32_w]; rfl
                     refine pure_ (i := 1) (N := some 124) (v := ?_) (a' := ?_) #[true, true, false, false, false, false, false, false, false, false, false, false, false, false, false, false] rfl rfl (any_of HT_.out (by kernel_rfl)) (fun _ _ _ h => h) (Or.inl ⟨by rfl, ?_⟩) ?_ ?_; rotate_left; intro w'; go_simp; with_reducible rfl; rotate_left; simp only [Act.put, List.setIfInBounds_toArray, List.set_cons_zero, List.set_cons_succ, i64_w, i32_w]; rfl
                     refine pure_ (i := 2) (N := some 125) (v := ?_) (a' := ?_) #[true, true, true, false, false, false, false, false, false, false, false, false, false, false, false, false] rfl rfl (any_of HT_.out (by kernel_rfl)) (fun _ _ _ h => h) (Or.inl ⟨by rfl, ?_⟩) ?_ ?_; rotate_left; intro w'; go_simp; with_reducible rfl; rotate_left; simp only [Act.put, List.setIfInBounds_toArray, List.set_cons_zero, List.set_cons_succ, i64_w, i32_w]; rfl
                     refine pure_ (i := 3) (N := some 126) (v := ?_) (a' := ?_) #[true, true, true, true, false, false, false, false, false, false, false, false, false, false, false, false] rfl rfl (any_of HT_.out (by kernel_rfl)) (fun _ _ _ h => h) (Or.inl ⟨by rfl, ?_⟩) ?_ ?_; rotate_left; intro w'; go_simp; with_reducible rfl; rotate_left; simp only [Act.put, List.setIfInBounds_toArray, List.set_cons_zero, List.set_cons_succ, i64_w, i32_w]; rfl
                     refine pure_ (i := 4) (N := some 127) (v := ?_) (a' := ?_) #[true, true, true, true, true, false, false, false, false, false, false, false, false, false, false, false] rfl rfl (any_of HT_.out (by kernel_rfl)) (fun _ _ _ h => h) (Or.inl ⟨by rfl, ?_⟩) ?_ ?_; rotate_left; intro w'; go_simp; with_reducible rfl; rotate_left; simp only [Act.put, List.setIfInBounds_toArray, List.set_cons_zero, List.set_cons_succ, i64_w, i32_w]; rfl
                     refine pure_ (i := 6) (N := some 129) (v := ?_) (a' := ?_) #[true, true, true, true, true, false, true, false, false, false, false, false, false, false, false, false] rfl rfl (any_of HT_.out (by kernel_rfl)) (fun _ _ _ h => h) (Or.inl ⟨by rfl, ?_⟩) ?_ ?_; rotate_left; intro w'; go_simp; with_reducible rfl; rotate_left; simp only [Act.put, List.setIfInBounds_toArray, List.set_cons_zero, List.set_cons_succ, i64_w, i32_w]; rfl
                     refine pure_ (i := 7) (N := some 130) (v := ?_) (a' := ?_) #[true, true, true, true, true, false, true, true, false, false, false, false, false, false, false, false] rfl rfl (any_of HT_.out (by kernel_rfl)) (fun _ _ _ h => h) (Or.inl ⟨by rfl, ?_⟩) ?_ ?_; rotate_left; intro w'; go_simp; with_reducible rfl; rotate_left; simp only [Act.put, List.setIfInBounds_toArray, List.set_cons_zero, List.set_cons_succ, i64_w, i32_w]; rfl
                     refine pure_ (i := 8) (N := some 131) (v := ?_) (a' := ?_) #[true, true, true, true, true, false, true, true, true, false, false, false, false, false, false, false] rfl rfl (any_of HT_.out (by kernel_rfl)) (fun _ _ _ h => h) (Or.inl ⟨by rfl, ?_⟩) ?_ ?_; rotate_left; intro w'; go_simp; with_reducible rfl; rotate_left; simp only [Act.put, List.setIfInBounds_toArray, List.set_cons_zero, List.set_cons_succ, i64_w, i32_w]; rfl
                     refine pure_ (i := 9) (N := some 132) (v := ?_) (a' := ?_) #[true, true, true, true, true, false, true, true, true, true, false, false, false, false, false, false] rfl rfl (any_of HT_.out (by kernel_rfl)) (fun _ _ _ h => h) (Or.inl ⟨by rfl, ?_⟩) ?_ ?_; rotate_left; intro w'; go_simp; with_reducible rfl; rotate_left; simp only [Act.put, List.setIfInBounds_toArray, List.set_cons_zero, List.set_cons_succ, i64_w, i32_w]; rfl
                     refine pure_ (i := 10) (N := some 133) (v := ?_) (a' := ?_) #[true, true, true, true, true, false, true, true, true, true, true, false, false, false, false, false] rfl rfl (any_of HT_.out (by kernel_rfl)) (fun _ _ _ h => h) (Or.inl ⟨by rfl, ?_⟩) ?_ ?_; rotate_left; intro w'; go_simp; with_reducible rfl; rotate_left; simp only [Act.put, List.setIfInBounds_toArray, List.set_cons_zero, List.set_cons_succ, i64_w, i32_w]; rfl
                     refine take_ (i := 5) (N := some 128) (v := ?_) (a' := ?_) #[true, true, true, true, true, true, true, true, true, true, true, false, false, false, false, false] rfl rfl (take_ofW HT_.out HW_.out (by kernel_rfl)) (fun _ _ _ h => h) (Or.inl ⟨by rfl, ?_⟩) hHeld ?_ ?_
                     rotate_left
                     ·rintro w' ⟨s0, s1⟩
                      go_simp
                      with_reducible rfl
                     rotate_left
                     ·simp only [Act.put, List.setIfInBounds_toArray, List.set_cons_zero, List.set_cons_succ, i64_w, i32_w]
                      rfl
                     refine take_ (i := 11) (N := some 134) (v := ?_) (a' := ?_) #[true, true, true, true, true, true, true, true, true, true, true, true, false, false, false, false] rfl rfl (take_ofW HT_.out HW_.out (by kernel_rfl)) (fun _ _ _ h => h) (Or.inl ⟨by rfl, ?_⟩) hHeld ?_ ?_
                     rotate_left
                     ·rintro w' ⟨s0, s1⟩
                      go_simp
                      with_reducible rfl
                     rotate_left
                     ·simp only [Act.put, List.setIfInBounds_toArray, List.set_cons_zero, List.set_cons_succ, i64_w, i32_w]
                      rfl
                     refine pure_ (i := 12) (N := some 135) (v := ?_) (a' := ?_) #[true, true, true, true, true, true, true, true, true, true, true, true, true, false, false, false] rfl rfl (any_of HT_.out (by kernel_rfl)) (fun _ _ _ h => h) (Or.inl ⟨by rfl, ?_⟩) ?_ ?_; rotate_left; intro w'; go_simp; with_reducible rfl; rotate_left; simp only [Act.put, List.setIfInBounds_toArray, List.set_cons_zero, List.set_cons_succ, i64_w, i32_w]; rfl
                     refine pure_ (i := 13) (N := some 136) (v := ?_) (a' := ?_) #[true, true, true, true, true, true, true, true, true, true, true, true, true, true, false, false] rfl rfl (any_of HT_.out (by kernel_rfl)) (fun _ _ _ h => h) (Or.inl ⟨by rfl, ?_⟩) ?_ ?_; rotate_left; intro w'; go_simp; with_reducible rfl; rotate_left; simp only [Act.put, List.setIfInBounds_toArray, List.set_cons_zero, List.set_cons_succ, i64_w, i32_w]; rfl
                     refine pure_ (i := 14) (N := some 137) (v := ?_) (a' := ?_) #[true, true, true, true, true, true, true, true, true, true, true, true, true, true, true, false] rfl rfl (any_of HT_.out (by kernel_rfl)) (fun _ _ _ h => h) (Or.inl ⟨by rfl, ?_⟩) ?_ ?_; rotate_left; intro w'; go_simp; with_reducible rfl; rotate_left; simp only [Act.put, List.setIfInBounds_toArray, List.set_cons_zero, List.set_cons_succ, i64_w, i32_w]; rfl
                     refine last_ (i := 15) (N := none) #[true, true, true, true, true, true, true, true, true, true, true, true, true, true, true, true] rfl rfl (one_of HT_.out (by kernel_rfl)) (by decide) (fun K hK => ?_)
                     refine skip_ (w1 := ?_) (by rfl) rfl ?_ ?_; rotate_left; go_simp; rfl
                     refine hK.out _ _ ?_
                     clear hK K
                     refine done_ (done_of HT_.out (by kernel_rfl)) ?_
                     try go_wp2
                     have n0_ : Aside0 (Kd.R (Kd.int .i64) 3 (w61.setCell ⟨go52, ((rd t235 x17_5) : Int).toNat, none⟩ (.int .i64 ji51)) w.heap.size (fun k_ => some k_ ≠ (.slice (some ⟨go52, 0, none⟩) x12_5.length co62 : Value).ownBlock ∧ some k_ ≠ (.slice (some ad252) x13_5.length co56 : Value).ownBlock ∧ some k_ ≠ (.slice (some ⟨go47, 0, none⟩) x14_5.length co57 : Value).ownBlock) (.slice (some ad251) t235.length co55) t235) := ⟨by (with_reducible repeat (first | apply Kd.R_alloc | apply Kd.R_drewN | apply Kd.R_drew)); exact Kd.R_mono (Kd.R_far (p := ⟨go52, ((rd t235 x17_5) : Int).toNat, none⟩) (Kd.R_mono HO_10.out (fun k_ hk => (⟨hk, fun e_ => hk.1.1 (by rw [e_]; rfl)⟩ : _ ∧ k_ ≠ go52))) (fun _ hk => hk.2) (.int .i64 ji51)) (fun _ hk => ⟨hk.1.1.1, ⟨hk.1.1.2, hk.1.2⟩⟩)⟩
                     have n1_ : Aside0 (Kd.R (Kd.int .i64) 3 (w61.setCell ⟨go52, ((rd t235 x17_5) : Int).toNat, none⟩ (.int .i64 ji51)) w.heap.size (fun k_ => some k_ ≠ (.slice (some ad251) t235.length co55 : Value).ownBlock ∧ some k_ ≠ (.slice (some ad252) x13_5.length co56 : Value).ownBlock ∧ some k_ ≠ (.slice (some ⟨go47, 0, none⟩) x14_5.length co57 : Value).ownBlock) (.slice (some ⟨go52, 0, none⟩) x12_5.length co62) y259) := ⟨by (with_reducible repeat (first | apply Kd.R_alloc | apply Kd.R_drewN | apply Kd.R_drew)); exact Kd.R_mono HQ63.out (fun _ hk => ⟨hk.1.1, ⟨hk.1.2, hk.2⟩⟩)⟩
                     have n2_ : Aside0 (Kd.R (Kd.int .i64) 3 (w61.setCell ⟨go52, ((rd t235 x17_5) : Int).toNat, none⟩ (.int .i64 ji51)) w.heap.size (fun k_ => some k_ ≠ (.slice (some ad251) t235.length co55 : Value).ownBlock ∧ some k_ ≠ (.slice (some ⟨go52, 0, none⟩) x12_5.length co62 : Value).ownBlock ∧ some k_ ≠ (.slice (some ⟨go47, 0, none⟩) x14_5.length co57 : Value).ownBlock) (.slice (some ad252) x13_5.length co56) x13_5) := ⟨by (with_reducible repeat (first | apply Kd.R_alloc | apply Kd.R_drewN | apply Kd.R_drew)); exact Kd.R_mono (Kd.R_far (p := ⟨go52, ((rd t235 x17_5) : Int).toNat, none⟩) (Kd.R_mono HO_13.out (fun k_ hk => (⟨hk, fun e_ => hk.1.2 (by rw [e_]; rfl)⟩ : _ ∧ k_ ≠ go52))) (fun _ hk => hk.2) (.int .i64 ji51)) (fun _ hk => ⟨hk.1.1.1, ⟨hk.1.1.2, hk.1.2⟩⟩)⟩
                     have n3_ : Aside0 (Kd.R (Kd.int .i64) 3 (w61.setCell ⟨go52, ((rd t235 x17_5) : Int).toNat, none⟩ (.int .i64 ji51)) w.heap.size (fun k_ => some k_ ≠ (.slice (some ad251) t235.length co55 : Value).ownBlock ∧ some k_ ≠ (.slice (some ⟨go52, 0, none⟩) x12_5.length co62 : Value).ownBlock ∧ some k_ ≠ (.slice (some ad252) x13_5.length co56 : Value).ownBlock) (.slice (some ⟨go47, 0, none⟩) x14_5.length co57) y254) := ⟨by (with_reducible repeat (first | apply Kd.R_alloc | apply Kd.R_drewN | apply Kd.R_drew)); exact Kd.R_mono (Kd.R_far (p := ⟨go52, ((rd t235 x17_5) : Int).toNat, none⟩) (Kd.R_mono HO_14.out (fun k_ hk => (⟨hk, fun e_ => hk.2.1 (by rw [e_]; rfl)⟩ : _ ∧ k_ ≠ go52))) (fun _ hk => hk.2) (.int .i64 ji51)) (fun _ hk => ⟨hk.1.1, ⟨hk.1.2.1, hk.1.2.2⟩⟩)⟩
                     have n4_ : Aside0 (Below w.heap.size w (w61.setCell ⟨go52, ((rd t235 x17_5) : Int).toNat, none⟩ (.int .i64 ji51))) := ⟨by repeat (first | (with_reducible first | exact HB.out | apply below_alloc | apply pw_below_drewN | apply below_drew1 | refine below_set ?_ GB52.out) | exact HB.out)⟩
                     (try clear HO_10)
                     (try clear HO_12)
                     (try clear HO_13)
                     (try clear HO_14)
                     (try clear HB)
                     generalize (w61.setCell ⟨go52, ((rd t235 x17_5) : Int).toNat, none⟩ (.int .i64 ji51)) = w64 at n0_ n1_ n2_ n3_ n4_ ⊢
                     have HO_10 := n0_
                     have HO_12 := n1_
                     have HO_13 := n2_
                     have HO_14 := n3_
                     have HB := n4_
                     clear n0_ n1_ n2_ n3_ n4_
                     have n0_ := Aside0.mk (Kd.R_drew HO_10.out)
                     have n1_ := Aside0.mk (Kd.R_drew HO_12.out)
                     have n2_ := Aside0.mk (Kd.R_drew HO_13.out)
                     have n3_ := Aside0.mk (Kd.R_drew HO_14.out)
                     have n4_ := Aside0.mk (below_drew1 HB.out)
                     clear HO_10
                     clear HO_12
                     clear HO_13
                     clear HO_14
                     clear HB
                     have HO_10 := n0_
                     have HO_12 := n1_
                     have HO_13 := n2_
                     have HO_14 := n3_
                     have HB := n4_
                     clear n0_ n1_ n2_ n3_ n4_
                     have p260 : 0 ≤ ((rd t235 x17_5) : Int) := of_decide_eq_true (by first | (with_reducible assumption) | assumption)
                     have q260 : (rd t235 x17_5) < (x13_5.length : Int) := of_decide_eq_true (by first | (with_reducible assumption) | assumption)
                     obtain ⟨ad260, e260, hx260_0⟩ := Kd.at_int (Kd.R_reads' HO_13.out).2.2 (rd t235 x17_5) p260 q260
                     obtain rfl : ad252 = ad260 := (by injection e260)
                     replace p260 := eq_true p260
                     replace q260 := eq_true q260
                     have p261 : 0 ≤ ((rd t235 x17_5) : Int) := of_decide_eq_true (by first | (with_reducible assumption) | assumption)
                     have q261 : (rd t235 x17_5) < (l0.length : Int) := of_decide_eq_true (by first | (with_reducible assumption) | assumption)
                     obtain ⟨ad261, e261, hx261_0, hx261_1, hx261_2, hx261_3⟩ := at_T43 HR0.out (rd t235 x17_5) p261 q261
                     have hw261_3 := hx261_3
                     have hw261_2 := hx261_2
                     have hw261_1 := hx261_1
                     have hw261_0 := hx261_0
                     obtain rfl : ad256 = ad261 := (by injection e261)
                     replace hx261_0 := (HB.out.cell (World.block_lt_of_cell? w _ hx261_0)).trans hx261_0
                     replace hx261_1 := (HB.out.cell (World.block_lt_of_cell? w _ hx261_1)).trans hx261_1
                     replace hx261_2 := (HB.out.cell (World.block_lt_of_cell? w _ hx261_2)).trans hx261_2
                     replace hx261_3 := (HB.out.cell (World.block_lt_of_cell? w _ hx261_3)).trans hx261_3
                     replace p261 := eq_true p261
                     replace q261 := eq_true q261
                     have p53 : 0 ≤ ((rd t235 x17_5) : Int) := of_decide_eq_true (by first | (with_reducible assumption) | assumption)
                     have q53 : ((rd t235 x17_5) : Int) < ((x13_5.length : Int) : Int) := of_decide_eq_true (by first | (with_reducible assumption) | assumption)
                     obtain ⟨go53, co53, eo53, gb53, gl53, cl53, HG53⟩ := Kd.R_form HO_13.out (by omega)
                     (first | cases eo53 | (injection eo53 with ea_ en_ ec_; (first | subst ea_ | (injection ea_ with ea_; subst ea_)); subst ec_; clear en_))
                     have GB53 := Aside0.mk gb53
                     have GG53 := Aside0.mk HG53
                     clear gb53 gl53 HG53
                     (first | simp only [add_plain] at hx252_0 | skip)
                     (first | simp only [add_plain] at hx258_0 | skip)
                     (first | simp only [add_plain] at hx260_0 | skip)
                     obtain ⟨hx53_0, hf53_0⟩ := Kd.R_celln 0 HO_13.out ((rd t235 x17_5) : Int) p53 q53
                     replace p53 := eq_true p53
                     replace q53 := eq_true q53
                     have HP66 := Kd.R_putn HO_13.out ((rd t235 x17_5) : Int) (wrap64 ((rd x13_5 (rd t235 x17_5)) + ((rd_T43 l0 (rd t235 x17_5)).f0)))
                     rw [← Ny262.out] at HP66
                     have HQ66 := Aside0.mk HP66
                     clear HP66
                     refine start_ (n := 14) (S := fun w' => w'.cell? ⟨go53, ((rd t235 x17_5)).toNat, none⟩ = some (.int .i64 (rd x13_5 (rd t235 x17_5))) ∧ w'.cell? (ad256.add (((rd t235 x17_5)).toNat * 4)) = some (.int .i64 ((rd_T43 l0 (rd t235 x17_5)).f0)) ∧ w'.cell? ⟨(ad256.add (((rd t235 x17_5)).toNat * 4)).block, (ad256.add (((rd t235 x17_5)).toNat * 4)).off + 1, none⟩ = some (.int .i64 ((rd_T43 l0 (rd t235 x17_5)).f1)) ∧ w'.cell? ⟨(ad256.add (((rd t235 x17_5)).toNat * 4)).block, (ad256.add (((rd t235 x17_5)).toNat * 4)).off + 2, none⟩ = some (.int .i64 ((rd_T43 l0 (rd t235 x17_5)).f2)) ∧ w'.cell? ⟨(ad256.add (((rd t235 x17_5)).toNat * 4)).block, (ad256.add (((rd t235 x17_5)).toNat * 4)).off + 3, none⟩ = some (.int .i64 ((rd_T43 l0 (rd t235 x17_5)).f3))) (ds := [13]) #[false, false, false, false, false, false, false, false, false, false, false, false, false, false] (by kernel_rfl) rfl rfl ⟨hx260_0, ((HB.out.cell (World.block_lt_of_cell? w _ hw261_0)).trans hw261_0), ((HB.out.cell (World.block_lt_of_cell? w _ hw261_1)).trans hw261_1), ((HB.out.cell (World.block_lt_of_cell? w _ hw261_2)).trans hw261_2), ((HB.out.cell (World.block_lt_of_cell? w _ hw261_3)).trans hw261_3)⟩ (fun hHeld => ?_); refine with_tabW titheref22_Play.tab30 titheref22_Play.bits30 (fun HT_ HW_ => ?_)
                     generalize w64.drew = w65 at HO_10 HO_12 HO_13 HO_14 HB GG53 HQ63 HQ66 hf53_0 hx252_0 hx258_0 hx260_0 hx261_0 hx261_1 hx261_2 hx261_3 hx53_0 hHeld ⊢
                     refine pure_ (i := 0) (N := some 138) (v := ?_) (a' := ?_) #[true, false, false, false, false, false, false, false, false, false, false, false, false, false] rfl rfl (any_of HT_.out (by kernel_rfl)) (fun _ _ _ h => h) (Or.inl ⟨by rfl, ?_⟩) ?_ ?_; rotate_left; intro w'; go_simp; with_reducible rfl; rotate_left; simp only [Act.put, List.setIfInBounds_toArray, List.set_cons_zero, List.set_cons_succ, i64_w, i32_w]; rfl
                     refine pure_ (i := 1) (N := some 139) (v := ?_) (a' := ?_) #[true, true, false, false, false, false, false, false, false, false, false, false, false, false] rfl rfl (any_of HT_.out (by kernel_rfl)) (fun _ _ _ h => h) (Or.inl ⟨by rfl, ?_⟩) ?_ ?_; rotate_left; intro w'; go_simp; with_reducible rfl; rotate_left; simp only [Act.put, List.setIfInBounds_toArray, List.set_cons_zero, List.set_cons_succ, i64_w, i32_w]; rfl
                     refine pure_ (i := 2) (N := some 140) (v := ?_) (a' := ?_) #[true, true, true, false, false, false, false, false, false, false, false, false, false, false] rfl rfl (any_of HT_.out (by kernel_rfl)) (fun _ _ _ h => h) (Or.inl ⟨by rfl, ?_⟩) ?_ ?_; rotate_left; intro w'; go_simp; with_reducible rfl; rotate_left; simp only [Act.put, List.setIfInBounds_toArray, List.set_cons_zero, List.set_cons_succ, i64_w, i32_w]; rfl
                     refine pure_ (i := 3) (N := some 141) (v := ?_) (a' := ?_) #[true, true, true, true, false, false, false, false, false, false, false, false, false, false] rfl rfl (any_of HT_.out (by kernel_rfl)) (fun _ _ _ h => h) (Or.inl ⟨by rfl, ?_⟩) ?_ ?_; rotate_left; intro w'; go_simp; with_reducible rfl; rotate_left; simp only [Act.put, List.setIfInBounds_toArray, List.set_cons_zero, List.set_cons_succ, i64_w, i32_w]; rfl
                     refine pure_ (i := 4) (N := some 142) (v := ?_) (a' := ?_) #[true, true, true, true, true, false, false, false, false, false, false, false, false, false] rfl rfl (any_of HT_.out (by kernel_rfl)) (fun _ _ _ h => h) (Or.inl ⟨by rfl, ?_⟩) ?_ ?_; rotate_left; intro w'; go_simp; with_reducible rfl; rotate_left; simp only [Act.put, List.setIfInBounds_toArray, List.set_cons_zero, List.set_cons_succ, i64_w, i32_w]; rfl
                     refine pure_ (i := 6) (N := some 144) (v := ?_) (a' := ?_) #[true, true, true, true, true, false, true, false, false, false, false, false, false, false] rfl rfl (any_of HT_.out (by kernel_rfl)) (fun _ _ _ h => h) (Or.inl ⟨by rfl, ?_⟩) ?_ ?_; rotate_left; intro w'; go_simp; with_reducible rfl; rotate_left; simp only [Act.put, List.setIfInBounds_toArray, List.set_cons_zero, List.set_cons_succ, i64_w, i32_w]; rfl
                     refine pure_ (i := 7) (N := some 145) (v := ?_) (a' := ?_) #[true, true, true, true, true, false, true, true, false, false, false, false, false, false] rfl rfl (any_of HT_.out (by kernel_rfl)) (fun _ _ _ h => h) (Or.inl ⟨by rfl, ?_⟩) ?_ ?_; rotate_left; intro w'; go_simp; with_reducible rfl; rotate_left; simp only [Act.put, List.setIfInBounds_toArray, List.set_cons_zero, List.set_cons_succ, i64_w, i32_w]; rfl
                     refine pure_ (i := 8) (N := some 146) (v := ?_) (a' := ?_) #[true, true, true, true, true, false, true, true, true, false, false, false, false, false] rfl rfl (any_of HT_.out (by kernel_rfl)) (fun _ _ _ h => h) (Or.inl ⟨by rfl, ?_⟩) ?_ ?_; rotate_left; intro w'; go_simp; with_reducible rfl; rotate_left; simp only [Act.put, List.setIfInBounds_toArray, List.set_cons_zero, List.set_cons_succ, i64_w, i32_w]; rfl
                     refine pure_ (i := 9) (N := some 147) (v := ?_) (a' := ?_) #[true, true, true, true, true, false, true, true, true, true, false, false, false, false] rfl rfl (any_of HT_.out (by kernel_rfl)) (fun _ _ _ h => h) (Or.inl ⟨by rfl, ?_⟩) ?_ ?_; rotate_left; intro w'; go_simp; with_reducible rfl; rotate_left; simp only [Act.put, List.setIfInBounds_toArray, List.set_cons_zero, List.set_cons_succ, i64_w, i32_w]; rfl
                     refine take_ (i := 5) (N := some 143) (v := ?_) (a' := ?_) #[true, true, true, true, true, true, true, true, true, true, false, false, false, false] rfl rfl (take_ofW HT_.out HW_.out (by kernel_rfl)) (fun _ _ _ h => h) (Or.inl ⟨by rfl, ?_⟩) hHeld ?_ ?_
                     rotate_left
                     ·rintro w' ⟨s0, s1, s2, s3, s4⟩
                      go_simp
                      with_reducible rfl
                     rotate_left
                     ·simp only [Act.put, List.setIfInBounds_toArray, List.set_cons_zero, List.set_cons_succ, i64_w, i32_w]
                      rfl
                     refine take_ (i := 10) (N := some 148) (v := ?_) (a' := ?_) #[true, true, true, true, true, true, true, true, true, true, true, false, false, false] rfl rfl (take_ofW HT_.out HW_.out (by kernel_rfl)) (fun _ _ _ h => h) (Or.inl ⟨by rfl, ?_⟩) hHeld ?_ ?_
                     rotate_left
                     ·rintro w' ⟨s0, s1, s2, s3, s4⟩
                      go_simp
                      with_reducible rfl
                     rotate_left
                     ·simp only [Act.put, List.setIfInBounds_toArray, List.set_cons_zero, List.set_cons_succ, i64_w, i32_w]
                      rfl
                     refine pure_ (i := 11) (N := some 149) (v := ?_) (a' := ?_) #[true, true, true, true, true, true, true, true, true, true, true, true, false, false] rfl rfl (any_of HT_.out (by kernel_rfl)) (fun _ _ _ h => h) (Or.inl ⟨by rfl, ?_⟩) ?_ ?_; rotate_left; intro w'; go_simp; with_reducible rfl; rotate_left; simp only [Act.put, List.setIfInBounds_toArray, List.set_cons_zero, List.set_cons_succ, i64_w, i32_w]; rfl
                     refine pure_ (i := 12) (N := some 150) (v := ?_) (a' := ?_) #[true, true, true, true, true, true, true, true, true, true, true, true, true, false] rfl rfl (any_of HT_.out (by kernel_rfl)) (fun _ _ _ h => h) (Or.inl ⟨by rfl, ?_⟩) ?_ ?_; rotate_left; intro w'; go_simp; with_reducible rfl; rotate_left; simp only [Act.put, List.setIfInBounds_toArray, List.set_cons_zero, List.set_cons_succ, i64_w, i32_w]; rfl
                     refine last_ (i := 13) (N := none) #[true, true, true, true, true, true, true, true, true, true, true, true, true, true] rfl rfl (one_of HT_.out (by kernel_rfl)) (by decide) (fun K hK => ?_)
                     refine skip_ (w1 := ?_) (by rfl) rfl ?_ ?_; rotate_left; go_simp; rfl
                     refine hK.out _ _ ?_
                     clear hK K
                     refine done_ (done_of HT_.out (by kernel_rfl)) ?_
                     have n0_ : Aside0 (Kd.R (Kd.int .i64) 3 (w65.setCell ⟨go53, ((rd t235 x17_5) : Int).toNat, none⟩ (.int .i64 (wrap64 ((rd x13_5 (rd t235 x17_5)) + ((rd_T43 l0 (rd t235 x17_5)).f0))))) w.heap.size (fun k_ => some k_ ≠ (.slice (some ⟨go52, 0, none⟩) x12_5.length co62 : Value).ownBlock ∧ some k_ ≠ (.slice (some ⟨go53, 0, none⟩) x13_5.length co56 : Value).ownBlock ∧ some k_ ≠ (.slice (some ⟨go47, 0, none⟩) x14_5.length co57 : Value).ownBlock) (.slice (some ad251) t235.length co55) t235) := ⟨by (with_reducible repeat (first | apply Kd.R_alloc | apply Kd.R_drewN | apply Kd.R_drew)); exact Kd.R_mono (Kd.R_far (p := ⟨go53, ((rd t235 x17_5) : Int).toNat, none⟩) (Kd.R_mono HO_10.out (fun k_ hk => (⟨hk, fun e_ => hk.2.1 (by rw [e_]; rfl)⟩ : _ ∧ k_ ≠ go53))) (fun _ hk => hk.2) (.int .i64 (wrap64 ((rd x13_5 (rd t235 x17_5)) + ((rd_T43 l0 (rd t235 x17_5)).f0))))) (fun _ hk => ⟨hk.1.1, ⟨hk.1.2.1, hk.1.2.2⟩⟩)⟩
                     have n1_ : Aside0 (Kd.R (Kd.int .i64) 3 (w65.setCell ⟨go53, ((rd t235 x17_5) : Int).toNat, none⟩ (.int .i64 (wrap64 ((rd x13_5 (rd t235 x17_5)) + ((rd_T43 l0 (rd t235 x17_5)).f0))))) w.heap.size (fun k_ => some k_ ≠ (.slice (some ad251) t235.length co55 : Value).ownBlock ∧ some k_ ≠ (.slice (some ⟨go53, 0, none⟩) x13_5.length co56 : Value).ownBlock ∧ some k_ ≠ (.slice (some ⟨go47, 0, none⟩) x14_5.length co57 : Value).ownBlock) (.slice (some ⟨go52, 0, none⟩) x12_5.length co62) y259) := ⟨by (with_reducible repeat (first | apply Kd.R_alloc | apply Kd.R_drewN | apply Kd.R_drew)); exact Kd.R_mono (Kd.R_far (p := ⟨go53, ((rd t235 x17_5) : Int).toNat, none⟩) (Kd.R_mono HO_12.out (fun k_ hk => (⟨hk, fun e_ => hk.2.1 (by rw [e_]; rfl)⟩ : _ ∧ k_ ≠ go53))) (fun _ hk => hk.2) (.int .i64 (wrap64 ((rd x13_5 (rd t235 x17_5)) + ((rd_T43 l0 (rd t235 x17_5)).f0))))) (fun _ hk => ⟨hk.1.1, ⟨hk.1.2.1, hk.1.2.2⟩⟩)⟩
                     have n2_ : Aside0 (Kd.R (Kd.int .i64) 3 (w65.setCell ⟨go53, ((rd t235 x17_5) : Int).toNat, none⟩ (.int .i64 (wrap64 ((rd x13_5 (rd t235 x17_5)) + ((rd_T43 l0 (rd t235 x17_5)).f0))))) w.heap.size (fun k_ => some k_ ≠ (.slice (some ad251) t235.length co55 : Value).ownBlock ∧ some k_ ≠ (.slice (some ⟨go52, 0, none⟩) x12_5.length co62 : Value).ownBlock ∧ some k_ ≠ (.slice (some ⟨go47, 0, none⟩) x14_5.length co57 : Value).ownBlock) (.slice (some ⟨go53, 0, none⟩) x13_5.length co56) y262) := ⟨by (with_reducible repeat (first | apply Kd.R_alloc | apply Kd.R_drewN | apply Kd.R_drew)); exact HQ66.out⟩
                     have n3_ : Aside0 (Kd.R (Kd.int .i64) 3 (w65.setCell ⟨go53, ((rd t235 x17_5) : Int).toNat, none⟩ (.int .i64 (wrap64 ((rd x13_5 (rd t235 x17_5)) + ((rd_T43 l0 (rd t235 x17_5)).f0))))) w.heap.size (fun k_ => some k_ ≠ (.slice (some ad251) t235.length co55 : Value).ownBlock ∧ some k_ ≠ (.slice (some ⟨go52, 0, none⟩) x12_5.length co62 : Value).ownBlock ∧ some k_ ≠ (.slice (some ⟨go53, 0, none⟩) x13_5.length co56 : Value).ownBlock) (.slice (some ⟨go47, 0, none⟩) x14_5.length co57) y254) := ⟨by (with_reducible repeat (first | apply Kd.R_alloc | apply Kd.R_drewN | apply Kd.R_drew)); exact Kd.R_mono (Kd.R_far (p := ⟨go53, ((rd t235 x17_5) : Int).toNat, none⟩) (Kd.R_mono HO_14.out (fun k_ hk => (⟨hk, fun e_ => hk.2.2 (by rw [e_]; rfl)⟩ : _ ∧ k_ ≠ go53))) (fun _ hk => hk.2) (.int .i64 (wrap64 ((rd x13_5 (rd t235 x17_5)) + ((rd_T43 l0 (rd t235 x17_5)).f0))))) (fun _ hk => ⟨hk.1.1, ⟨hk.1.2.1, hk.1.2.2⟩⟩)⟩
                     have n4_ : Aside0 (Below w.heap.size w (w65.setCell ⟨go53, ((rd t235 x17_5) : Int).toNat, none⟩ (.int .i64 (wrap64 ((rd x13_5 (rd t235 x17_5)) + ((rd_T43 l0 (rd t235 x17_5)).f0)))))) := ⟨by repeat (first | (with_reducible first | exact HB.out | apply below_alloc | apply pw_below_drewN | apply below_drew1 | refine below_set ?_ GB53.out) | exact HB.out)⟩
                     (try clear HO_10)
                     (try clear HO_12)
                     (try clear HO_13)
                     (try clear HO_14)
                     (try clear HB)
                     generalize (w65.setCell ⟨go53, ((rd t235 x17_5) : Int).toNat, none⟩ (.int .i64 (wrap64 ((rd x13_5 (rd t235 x17_5)) + ((rd_T43 l0 (rd t235 x17_5)).f0))))) = w67 at n0_ n1_ n2_ n3_ n4_ ⊢
                     have HO_10 := n0_
                     have HO_12 := n1_
                     have HO_13 := n2_
                     have HO_14 := n3_
                     have HB := n4_
                     clear n0_ n1_ n2_ n3_ n4_
                     have p54 : 0 ≤ ((rd t235 x17_5) : Int) := of_decide_eq_true (by first | (with_reducible assumption) | assumption)
                     have q54 : ((rd t235 x17_5) : Int) < ((x14_5.length : Int) : Int) := of_decide_eq_true (by first | (with_reducible assumption) | assumption)
                     obtain ⟨hx54_0, hf54_0⟩ := Kd.R_celln 0 HO_14.out ((rd t235 x17_5) : Int) p54 q54
                     replace p54 := eq_true p54
                     replace q54 := eq_true q54
                     obtain ⟨hy68_, hz68_⟩ := Kd.R_celln 0 HO_14.out ((rd t235 x17_5) : Int) (of_decide_eq_true (by first | (with_reducible assumption) | assumption)) (of_decide_eq_true (by first | (with_reducible assumption) | assumption))
                     have HP68 := Kd.R_putg HO_14.out ((rd t235 x17_5) : Int) 0
                     try go_wp2_with (first | ((with_reducible refine gate_store (t := 3) (p := 153) rfl ?_); refine store_event (t := 3) (p := 153) (v := ?vo_w69) (w1 := (w67.setCell ⟨go47, ((rd t235 x17_5) : Int).toNat, none⟩ (.int .i64 0))) ?hg ?ho ?hn ?hr ?_; (case ho => rfl); (case hg => rfl); (case hn => rfl); (case hr => first | (go_simp; done) | (go_simp; rfl)); intro w69 hw; have hg : w67.grownBy w69 (some go47) := (by rw [hw]; exact HP68.2); have hp_ : Kd.R (Kd.int .i64) 3 w69 w.heap.size (fun k_ => some k_ ≠ (.slice (some ad251) t235.length co55 : Value).ownBlock ∧ some k_ ≠ (.slice (some ⟨go52, 0, none⟩) x12_5.length co62 : Value).ownBlock ∧ some k_ ≠ (.slice (some ⟨go53, 0, none⟩) x13_5.length co56 : Value).ownBlock) (.slice (some ⟨go47, 0, none⟩) x14_5.length co57) y263 := (by rw [hw, Ny263.out]; exact HP68.1); clear HP68; have n0_ := Aside0.mk (Kd.R_after (v := (.slice (some ⟨go47, 0, none⟩) x14_5.length co57)) (v1 := (.slice (some ⟨go47, 0, none⟩) x14_5.length co57)) (ok := (fun k_ => some k_ ≠ (.slice (some ⟨go52, 0, none⟩) x12_5.length co62 : Value).ownBlock ∧ some k_ ≠ (.slice (some ⟨go53, 0, none⟩) x13_5.length co56 : Value).ownBlock)) (by (with_reducible repeat (first | apply Kd.R_alloc | apply Kd.R_drewN | apply Kd.R_drew)); exact Kd.R_mono HO_10.out (fun _ hk => ⟨⟨hk.1, hk.2.1⟩, hk.2.2⟩)) hg (.inl rfl)); have n1_ := Aside0.mk (Kd.R_after (v := (.slice (some ⟨go47, 0, none⟩) x14_5.length co57)) (v1 := (.slice (some ⟨go47, 0, none⟩) x14_5.length co57)) (ok := (fun k_ => some k_ ≠ (.slice (some ad251) t235.length co55 : Value).ownBlock ∧ some k_ ≠ (.slice (some ⟨go53, 0, none⟩) x13_5.length co56 : Value).ownBlock)) (by (with_reducible repeat (first | apply Kd.R_alloc | apply Kd.R_drewN | apply Kd.R_drew)); exact Kd.R_mono HO_12.out (fun _ hk => ⟨⟨hk.1, hk.2.1⟩, hk.2.2⟩)) hg (.inl rfl)); have n2_ := Aside0.mk (Kd.R_after (v := (.slice (some ⟨go47, 0, none⟩) x14_5.length co57)) (v1 := (.slice (some ⟨go47, 0, none⟩) x14_5.length co57)) (ok := (fun k_ => some k_ ≠ (.slice (some ad251) t235.length co55 : Value).ownBlock ∧ some k_ ≠ (.slice (some ⟨go52, 0, none⟩) x12_5.length co62 : Value).ownBlock)) (by (with_reducible repeat (first | apply Kd.R_alloc | apply Kd.R_drewN | apply Kd.R_drew)); exact Kd.R_mono HO_13.out (fun _ hk => ⟨⟨hk.1, hk.2.1⟩, hk.2.2⟩)) hg (.inl rfl)); have n3_ := Aside0.mk (hp_); have n4_ := Aside0.mk ((by rw [hw]; exact below_set (HB.out) GB47.out : Below w.heap.size w w69)); clear HO_10; clear HO_12; clear HO_13; clear HO_14; clear HB; have HO_10 := n0_; have HO_12 := n1_; have HO_13 := n2_; have HO_14 := n3_; have HB := n4_; clear n0_ n1_ n2_ n3_ n4_; clear hg hw hp_))
                     first | go_roundg kj31 | (subst hji51; go_roundg kj31)
                     case measure => have := HJ5.out; have := HK2.out; have := HK3.out; have := HK4.out; have := HK5.out; have := HJ31.out; omega
                     case rel => exact ⟨(y259), (y262), (y263), (wrap64 (x16_4 + 1)), (by first | rfl | (simp; done) | (simp [*]; done)), H', ⟨by have := HJ5.out; have := HK2.out; have := HK3.out; have := HK4.out; have := HK5.out; have := HJ31.out; omega⟩, ⟨by (with_reducible repeat (first | apply Kd.R_alloc | apply Kd.R_drewN | apply Kd.R_drew)); exact Kd.R_mono HO_10.out (fun _ hk => ⟨hk.1.1, ⟨hk.1.2, hk.2⟩⟩)⟩, ⟨by (with_reducible repeat (first | apply Kd.R_alloc | apply Kd.R_drewN | apply Kd.R_drew)); exact Kd.R_mono HO_12.out (fun _ hk => ⟨hk.1.1, ⟨hk.1.2, hk.2⟩⟩)⟩, ⟨by (with_reducible repeat (first | apply Kd.R_alloc | apply Kd.R_drewN | apply Kd.R_drew)); exact Kd.R_mono HO_13.out (fun _ hk => ⟨hk.1.1, ⟨hk.1.2, hk.2⟩⟩)⟩, ⟨by (with_reducible repeat (first | apply Kd.R_alloc | apply Kd.R_drewN | apply Kd.R_drew)); exact HO_14.out⟩, ⟨by repeat (first | (with_reducible first | exact HB.out | apply below_alloc | apply pw_below_drewN | apply below_drew1) | exact HB.out)⟩⟩
                    ·rw [if_neg c49] at H
                     have c49b0 : ((rd y254 (rd t235 x17_5)) == ((rd_T43 l0 (rd t235 x17_5)).f1)) = false := beq_eq_false_iff_ne.mpr c49
                     have c49b1 : ((rd y254 (rd t235 x17_5)) != ((rd_T43 l0 (rd t235 x17_5)).f1)) = true := bne_iff_ne.mpr c49
                     have H' := Aside0.mk H
                     clear H
                     obtain ⟨Ao70, co70, eo70⟩ := Kd.R_slice HO_10.out
                     subst eo70
                     have p251 : 0 ≤ (x17_5 : Int) := of_decide_eq_true (by first | (with_reducible assumption) | assumption)
                     have q251 : x17_5 < (t235.length : Int) := of_decide_eq_true (by first | (with_reducible assumption) | assumption)
                     obtain ⟨ad251, e251, hx251_0⟩ := Kd.at_int (Kd.R_reads' HO_10.out).2.2 x17_5 p251 q251
                     cases e251
                     replace p251 := eq_true p251
                     replace q251 := eq_true q251
                     obtain ⟨Ao71, co71, eo71⟩ := Kd.R_slice HO_13.out
                     subst eo71
                     have p252 : 0 ≤ ((rd t235 x17_5) : Int) := of_decide_eq_true (by first | (with_reducible assumption) | assumption)
                     have q252 : (rd t235 x17_5) < (x13_5.length : Int) := of_decide_eq_true (by first | (with_reducible assumption) | assumption)
                     obtain ⟨ad252, e252, hx252_0⟩ := Kd.at_int (Kd.R_reads' HO_13.out).2.2 (rd t235 x17_5) p252 q252
                     cases e252
                     replace p252 := eq_true p252
                     replace q252 := eq_true q252
                     obtain ⟨Ao72, co72, eo72⟩ := Kd.R_slice HO_14.out
                     subst eo72
                     have p253 : 0 ≤ ((rd t235 x17_5) : Int) := of_decide_eq_true (by first | (with_reducible assumption) | assumption)
                     have q253 : (rd t235 x17_5) < (x14_5.length : Int) := of_decide_eq_true (by first | (with_reducible assumption) | assumption)
                     obtain ⟨ad253, e253, hx253_0⟩ := Kd.at_int (Kd.R_reads' HO_14.out).2.2 (rd t235 x17_5) p253 q253
                     cases e253
                     replace p253 := eq_true p253
                     replace q253 := eq_true q253
                     have p47 : 0 ≤ ((rd t235 x17_5) : Int) := of_decide_eq_true (by first | (with_reducible assumption) | assumption)
                     have q47 : ((rd t235 x17_5) : Int) < ((x14_5.length : Int) : Int) := of_decide_eq_true (by first | (with_reducible assumption) | assumption)
                     obtain ⟨go47, co47, eo47, gb47, gl47, cl47, HG47⟩ := Kd.R_form HO_14.out (by omega)
                     (first | cases eo47 | (injection eo47 with ea_ en_ ec_; (first | subst ea_ | (injection ea_ with ea_; subst ea_)); subst ec_; clear en_))
                     have GB47 := Aside0.mk gb47
                     have GG47 := Aside0.mk HG47
                     clear gb47 gl47 HG47
                     (first | simp only [add_plain] at hx253_0 | skip)
                     obtain ⟨hx47_0, hf47_0⟩ := Kd.R_celln 0 HO_14.out ((rd t235 x17_5) : Int) p47 q47
                     replace p47 := eq_true p47
                     replace q47 := eq_true q47
                     have HP73 := Kd.R_putg HO_14.out ((rd t235 x17_5) : Int) (wrap64 ((rd x14_5 (rd t235 x17_5)) + 1))
                     try go_wp2_with (first | ((with_reducible refine gate_store (t := 3) (p := 112) rfl ?_); refine store_event (t := 3) (p := 112) (v := ?vo_w74) (w1 := (wc.setCell ⟨go47, ((rd t235 x17_5) : Int).toNat, none⟩ (.int .i64 (wrap64 ((rd x14_5 (rd t235 x17_5)) + 1))))) ?hg ?ho ?hn ?hr ?_; (case ho => rfl); (case hg => rfl); (case hn => rfl); (case hr => first | (go_simp; done) | (go_simp; rfl)); intro w74 hw; have hg : wc.grownBy w74 (some go47) := (by rw [hw]; exact HP73.2); have hp_ : Kd.R (Kd.int .i64) 3 w74 w.heap.size (fun k_ => some k_ ≠ (.slice (some ad251) t235.length co70 : Value).ownBlock ∧ some k_ ≠ (v240 : Value).ownBlock ∧ some k_ ≠ (.slice (some ad252) x13_5.length co71 : Value).ownBlock) (.slice (some ⟨go47, 0, none⟩) x14_5.length co72) y254 := (by rw [hw, Ny254.out]; exact HP73.1); clear HP73; have n0_ := Aside0.mk (Kd.R_after (v := (.slice (some ⟨go47, 0, none⟩) x14_5.length co72)) (v1 := (.slice (some ⟨go47, 0, none⟩) x14_5.length co72)) (ok := (fun k_ => some k_ ≠ (v240 : Value).ownBlock ∧ some k_ ≠ (.slice (some ad252) x13_5.length co71 : Value).ownBlock)) (by (with_reducible repeat (first | apply Kd.R_alloc | apply Kd.R_drewN | apply Kd.R_drew)); exact Kd.R_mono HO_10.out (fun _ hk => ⟨⟨hk.1, hk.2.1⟩, hk.2.2⟩)) hg (.inl rfl)); have n1_ := Aside0.mk (Kd.R_after (v := (.slice (some ⟨go47, 0, none⟩) x14_5.length co72)) (v1 := (.slice (some ⟨go47, 0, none⟩) x14_5.length co72)) (ok := (fun k_ => some k_ ≠ (.slice (some ad251) t235.length co70 : Value).ownBlock ∧ some k_ ≠ (.slice (some ad252) x13_5.length co71 : Value).ownBlock)) (by (with_reducible repeat (first | apply Kd.R_alloc | apply Kd.R_drewN | apply Kd.R_drew)); exact Kd.R_mono HO_12.out (fun _ hk => ⟨⟨hk.1, hk.2.1⟩, hk.2.2⟩)) hg (.inl rfl)); have n2_ := Aside0.mk (Kd.R_after (v := (.slice (some ⟨go47, 0, none⟩) x14_5.length co72)) (v1 := (.slice (some ⟨go47, 0, none⟩) x14_5.length co72)) (ok := (fun k_ => some k_ ≠ (.slice (some ad251) t235.length co70 : Value).ownBlock ∧ some k_ ≠ (v240 : Value).ownBlock)) (by (with_reducible repeat (first | apply Kd.R_alloc | apply Kd.R_drewN | apply Kd.R_drew)); exact Kd.R_mono HO_13.out (fun _ hk => ⟨⟨hk.1, hk.2.1⟩, hk.2.2⟩)) hg (.inl rfl)); have n3_ := Aside0.mk (hp_); have n4_ := Aside0.mk ((by rw [hw]; exact below_set (HB.out) GB47.out : Below w.heap.size w w74)); clear HO_10; clear HO_12; clear HO_13; clear HO_14; clear HB; have HO_10 := n0_; have HO_12 := n1_; have HO_13 := n2_; have HO_14 := n3_; have HB := n4_; clear n0_ n1_ n2_ n3_ n4_; clear hg hw hp_))
                     have n0_ := Aside0.mk (Kd.R_drew HO_10.out)
                     have n1_ := Aside0.mk (Kd.R_drew HO_12.out)
                     have n2_ := Aside0.mk (Kd.R_drew HO_13.out)
                     have n3_ := Aside0.mk (Kd.R_drew HO_14.out)
                     have n4_ := Aside0.mk (below_drew1 HB.out)
                     clear HO_10
                     clear HO_12
                     clear HO_13
                     clear HO_14
                     clear HB
                     have HO_10 := n0_
                     have HO_12 := n1_
                     have HO_13 := n2_
                     have HO_14 := n3_
                     have HB := n4_
                     clear n0_ n1_ n2_ n3_ n4_
                     have p255 : 0 ≤ ((rd t235 x17_5) : Int) := of_decide_eq_true (by first | (with_reducible assumption) | assumption)
                     have q255 : (rd t235 x17_5) < (y254.length : Int) := (by have h_ : ((rd t235 x17_5) : Int) < ((x14_5.length : Int) : Int) := of_decide_eq_true (by first | (with_reducible assumption) | assumption); first | (have e_ := (Kd.R_reads' HO_14.out).1; omega) | simpa only [Ny254.out, List.length_set] using h_)
                     have ql255 : (((rd t235 x17_5) : Int) < ((x14_5.length : Int) : Int)) = True := eq_true (of_decide_eq_true (by first | (with_reducible assumption) | assumption))
                     obtain ⟨ad255, e255, hx255_0⟩ := Kd.at_int (Kd.R_reads' HO_14.out).2.2 (rd t235 x17_5) p255 q255
                     obtain rfl : (⟨go47, 0, none⟩ : Addr) = ad255 := (by injection e255)
                     (first | simp only [add_plain] at hx255_0 | simp only [add_at] at hx255_0 | simp only [Addr.add, Nat.zero_add] at hx255_0 | skip)
                     replace p255 := eq_true p255
                     replace q255 := eq_true q255
                     have p256 : 0 ≤ ((rd t235 x17_5) : Int) := of_decide_eq_true (by first | (with_reducible assumption) | assumption)
                     have q256 : (rd t235 x17_5) < (l0.length : Int) := of_decide_eq_true (by first | (with_reducible assumption) | assumption)
                     obtain ⟨ad256, e256, hx256_0, hx256_1, hx256_2, hx256_3⟩ := at_T43 HR0.out (rd t235 x17_5) p256 q256
                     have hw256_3 := hx256_3
                     have hw256_2 := hx256_2
                     have hw256_1 := hx256_1
                     have hw256_0 := hx256_0
                     cases e256
                     replace hx256_0 := (HB.out.cell (World.block_lt_of_cell? w _ hx256_0)).trans hx256_0
                     replace hx256_1 := (HB.out.cell (World.block_lt_of_cell? w _ hx256_1)).trans hx256_1
                     replace hx256_2 := (HB.out.cell (World.block_lt_of_cell? w _ hx256_2)).trans hx256_2
                     replace hx256_3 := (HB.out.cell (World.block_lt_of_cell? w _ hx256_3)).trans hx256_3
                     replace p256 := eq_true p256
                     replace q256 := eq_true q256
                     refine start_ (n := 10) (S := fun w' => w'.cell? ⟨go47, ((rd t235 x17_5)).toNat, none⟩ = some (.int .i64 (rd y254 (rd t235 x17_5))) ∧ w'.cell? (ad256.add (((rd t235 x17_5)).toNat * 4)) = some (.int .i64 ((rd_T43 l0 (rd t235 x17_5)).f0)) ∧ w'.cell? ⟨(ad256.add (((rd t235 x17_5)).toNat * 4)).block, (ad256.add (((rd t235 x17_5)).toNat * 4)).off + 1, none⟩ = some (.int .i64 ((rd_T43 l0 (rd t235 x17_5)).f1)) ∧ w'.cell? ⟨(ad256.add (((rd t235 x17_5)).toNat * 4)).block, (ad256.add (((rd t235 x17_5)).toNat * 4)).off + 2, none⟩ = some (.int .i64 ((rd_T43 l0 (rd t235 x17_5)).f2)) ∧ w'.cell? ⟨(ad256.add (((rd t235 x17_5)).toNat * 4)).block, (ad256.add (((rd t235 x17_5)).toNat * 4)).off + 3, none⟩ = some (.int .i64 ((rd_T43 l0 (rd t235 x17_5)).f3))) (ds := []) #[false, false, false, false, false, false, false, false, false, false] (by kernel_rfl) rfl rfl ⟨hx255_0, ((HB.out.cell (World.block_lt_of_cell? w _ hw256_0)).trans hw256_0), ((HB.out.cell (World.block_lt_of_cell? w _ hw256_1)).trans hw256_1), ((HB.out.cell (World.block_lt_of_cell? w _ hw256_2)).trans hw256_2), ((HB.out.cell (World.block_lt_of_cell? w _ hw256_3)).trans hw256_3)⟩ (fun hHeld => ?_); refine with_tabW titheref22_Play.tab28 titheref22_Play.bits28 (fun HT_ HW_ => ?_)
                     generalize w74.drew = w75 at HO_10 HO_12 HO_13 HO_14 HB hx255_0 hx256_0 hx256_1 hx256_2 hx256_3 hHeld ⊢
                     refine pure_ (i := 0) (N := some 113) (v := ?_) (a' := ?_) #[true, false, false, false, false, false, false, false, false, false] rfl rfl (any_of HT_.out (by kernel_rfl)) (fun _ _ _ h => h) (Or.inl ⟨by rfl, ?_⟩) ?_ ?_; rotate_left; intro w'; go_simp; with_reducible rfl; rotate_left; simp only [Act.put, List.setIfInBounds_toArray, List.set_cons_zero, List.set_cons_succ, i64_w, i32_w]; rfl
                     refine pure_ (i := 1) (N := some 114) (v := ?_) (a' := ?_) #[true, true, false, false, false, false, false, false, false, false] rfl rfl (any_of HT_.out (by kernel_rfl)) (fun _ _ _ h => h) (Or.inl ⟨by rfl, ?_⟩) ?_ ?_; rotate_left; intro w'; go_simp; with_reducible rfl; rotate_left; simp only [Act.put, List.setIfInBounds_toArray, List.set_cons_zero, List.set_cons_succ, i64_w, i32_w]; rfl
                     refine pure_ (i := 2) (N := some 115) (v := ?_) (a' := ?_) #[true, true, true, false, false, false, false, false, false, false] rfl rfl (any_of HT_.out (by kernel_rfl)) (fun _ _ _ h => h) (Or.inl ⟨by rfl, ?_⟩) ?_ ?_; rotate_left; intro w'; go_simp; with_reducible rfl; rotate_left; simp only [Act.put, List.setIfInBounds_toArray, List.set_cons_zero, List.set_cons_succ, i64_w, i32_w]; rfl
                     refine pure_ (i := 4) (N := some 117) (v := ?_) (a' := ?_) #[true, true, true, false, true, false, false, false, false, false] rfl rfl (any_of HT_.out (by kernel_rfl)) (fun _ _ _ h => h) (Or.inl ⟨by rfl, ?_⟩) ?_ ?_; rotate_left; intro w'; go_simp; with_reducible rfl; rotate_left; simp only [Act.put, List.setIfInBounds_toArray, List.set_cons_zero, List.set_cons_succ, i64_w, i32_w]; rfl
                     refine pure_ (i := 5) (N := some 118) (v := ?_) (a' := ?_) #[true, true, true, false, true, true, false, false, false, false] rfl rfl (any_of HT_.out (by kernel_rfl)) (fun _ _ _ h => h) (Or.inl ⟨by rfl, ?_⟩) ?_ ?_; rotate_left; intro w'; go_simp; with_reducible rfl; rotate_left; simp only [Act.put, List.setIfInBounds_toArray, List.set_cons_zero, List.set_cons_succ, i64_w, i32_w]; rfl
                     refine pure_ (i := 6) (N := some 119) (v := ?_) (a' := ?_) #[true, true, true, false, true, true, true, false, false, false] rfl rfl (any_of HT_.out (by kernel_rfl)) (fun _ _ _ h => h) (Or.inl ⟨by rfl, ?_⟩) ?_ ?_; rotate_left; intro w'; go_simp; with_reducible rfl; rotate_left; simp only [Act.put, List.setIfInBounds_toArray, List.set_cons_zero, List.set_cons_succ, i64_w, i32_w]; rfl
                     refine pure_ (i := 7) (N := some 120) (v := ?_) (a' := ?_) #[true, true, true, false, true, true, true, true, false, false] rfl rfl (any_of HT_.out (by kernel_rfl)) (fun _ _ _ h => h) (Or.inl ⟨by rfl, ?_⟩) ?_ ?_; rotate_left; intro w'; go_simp; with_reducible rfl; rotate_left; simp only [Act.put, List.setIfInBounds_toArray, List.set_cons_zero, List.set_cons_succ, i64_w, i32_w]; rfl
                     refine take_ (i := 3) (N := some 116) (v := ?_) (a' := ?_) #[true, true, true, true, true, true, true, true, false, false] rfl rfl (take_ofW HT_.out HW_.out (by kernel_rfl)) (fun _ _ _ h => h) (Or.inl ⟨by rfl, ?_⟩) hHeld ?_ ?_
                     rotate_left
                     ·rintro w' ⟨s0, s1, s2, s3, s4⟩
                      go_simp
                      with_reducible rfl
                     rotate_left
                     ·simp only [Act.put, List.setIfInBounds_toArray, List.set_cons_zero, List.set_cons_succ, i64_w, i32_w]
                      rfl
                     refine take_ (i := 8) (N := some 121) (v := ?_) (a' := ?_) #[true, true, true, true, true, true, true, true, true, false] rfl rfl (take_ofW HT_.out HW_.out (by kernel_rfl)) (fun _ _ _ h => h) (Or.inl ⟨by rfl, ?_⟩) hHeld ?_ ?_
                     rotate_left
                     ·rintro w' ⟨s0, s1, s2, s3, s4⟩
                      go_simp
                      with_reducible rfl
                     rotate_left
                     ·simp only [Act.put, List.setIfInBounds_toArray, List.set_cons_zero, List.set_cons_succ, i64_w, i32_w]
                      rfl
                     refine pure_ (i := 9) (N := some 122) (v := ?_) (a' := ?_) #[true, true, true, true, true, true, true, true, true, true] rfl rfl (any_of HT_.out (by kernel_rfl)) (fun _ _ _ h => h) (Or.inl ⟨by rfl, ?_⟩) ?_ ?_; rotate_left; intro w'; go_simp; with_reducible rfl; rotate_left; simp only [Act.put, List.setIfInBounds_toArray, List.set_cons_zero, List.set_cons_succ, i64_w, i32_w]; rfl
                     refine done_ (done_of HT_.out (by kernel_rfl)) ?_
                     try go_wp2
                     go_roundg kj31
                     case measure => have := HJ5.out; have := HK2.out; have := HK3.out; have := HK4.out; have := HK5.out; have := HJ31.out; omega
                     case rel => exact ⟨(x12_5), (x13_5), (y254), (wrap64 (x16_4 + 1)), (by first | rfl | (simp; done) | (simp [*]; done)), H', ⟨by have := HJ5.out; have := HK2.out; have := HK3.out; have := HK4.out; have := HK5.out; have := HJ31.out; omega⟩, ⟨by (with_reducible repeat (first | apply Kd.R_alloc | apply Kd.R_drewN | apply Kd.R_drew)); exact Kd.R_mono HO_10.out (fun _ hk => ⟨hk.1.1, ⟨hk.1.2, hk.2⟩⟩)⟩, ⟨by (with_reducible repeat (first | apply Kd.R_alloc | apply Kd.R_drewN | apply Kd.R_drew)); exact Kd.R_mono HO_12.out (fun _ hk => ⟨hk.1.1, ⟨hk.1.2, hk.2⟩⟩)⟩, ⟨by (with_reducible repeat (first | apply Kd.R_alloc | apply Kd.R_drewN | apply Kd.R_drew)); exact Kd.R_mono HO_13.out (fun _ hk => ⟨hk.1.1, ⟨hk.1.2, hk.2⟩⟩)⟩, ⟨by (with_reducible repeat (first | apply Kd.R_alloc | apply Kd.R_drewN | apply Kd.R_drew)); exact HO_14.out⟩, ⟨by repeat (first | (with_reducible first | exact HB.out | apply below_alloc | apply pw_below_drewN | apply below_drew1) | exact HB.out)⟩⟩
                  ·replace c38 := Bool.eq_false_iff.mpr c38
                   subst c38
                   have H1 : (titheref22_Play.l2 kj31 l0 l2 t235 x12_5 x13_5 x14_5 (wrap64 (x16_4 + 1))) = some (r1, r2) := by rw [if_neg (show ¬ (false = true) by decide)] at H; exact H
                   clear H
                   have H := H1
                   clear H1
                   have H' := Aside0.mk H
                   clear H
                   go_wp2
                   go_roundg kj31
                   case measure => have := HJ5.out; have := HK2.out; have := HK3.out; have := HK4.out; have := HK5.out; have := HJ31.out; omega
                   case rel => exact ⟨(x12_5), (x13_5), (x14_5), (wrap64 (x16_4 + 1)), (by first | rfl | (simp; done) | (simp [*]; done)), H', ⟨by have := HJ5.out; have := HK2.out; have := HK3.out; have := HK4.out; have := HK5.out; have := HJ31.out; omega⟩, ⟨by (with_reducible repeat (first | apply Kd.R_alloc | apply Kd.R_drewN | apply Kd.R_drew)); exact HO_10.out⟩, ⟨by (with_reducible repeat (first | apply Kd.R_alloc | apply Kd.R_drewN | apply Kd.R_drew)); exact HO_12.out⟩, ⟨by (with_reducible repeat (first | apply Kd.R_alloc | apply Kd.R_drewN | apply Kd.R_drew)); exact HO_13.out⟩, ⟨by (with_reducible repeat (first | apply Kd.R_alloc | apply Kd.R_drewN | apply Kd.R_drew)); exact HO_14.out⟩, ⟨by repeat (first | (with_reducible first | exact HB.out | apply below_alloc | apply pw_below_drewN | apply below_drew1) | exact HB.out)⟩⟩
             ·rw [if_neg c31] at H
              have c31b0 : decide (x16_4 < (l2.length : Int)) = false := decide_eq_false c31
              clear c31
              simp only [Option.some.injEq, Prod.mk.injEq] at H
              obtain ⟨rfl, rfl⟩ := H
              go_wp2
              go_ret2
              exact ⟨_, by first | rfl | (simp [errW_none, errW_some] <;> rfl) | (simp [*, errW_none, errW_some] <;> rfl), by (with_reducible repeat (first | apply Kd.R_alloc | apply Kd.R_drewN | apply Kd.R_drew)); exact Kd.R_mono HO_12.out (fun _ hk => trivial), by repeat (first | (with_reducible first | exact HB.out | apply below_alloc | apply pw_below_drewN | apply below_drew1) | exact HB.out)⟩
 ·rw [if_neg c5] at H
  have c5b0 : (t232 == 0) = false := beq_eq_false_iff_ne.mpr c5
  have c5b1 : (t232 != 0) = true := bne_iff_ne.mpr c5
  simp only [Option.some.injEq, Prod.mk.injEq] at H
  obtain ⟨rfl, rfl⟩ := H
  go_enter Try.func43, Try.ntmps43
  go_wp2_with (first | ((with_reducible refine gate_callee (f := 21) rfl ?_); refine goesL_ (some 20) rfl rfl Try.func21 (by kernel_rfl) rfl #[.slice A0 l0.length c0] rfl (by (try simp only [List.map_toArray, List.map_cons, List.map_nil]); first | done | rfl | (simp only [List.length_drop, List.length_take]; rfl)) ?_; (with_reducible refine (titheref20_Valid.calls k _ _ l0 t232 _ ?side1 ?side2 A4.out).mono ?_); (case side1 => repeat (first | exact HR0.out | (with_reducible refine Kd.C_alloc ?_ _) | (with_reducible refine Kd.C_drewN ?_ _) | (with_reducible refine Kd.C_drew ?_))); (case side2 => exact HC0.out); rintro e w76 ⟨rfl, hb⟩; refine ⟨_, rfl, ?_⟩; have n0_ := Aside0.mk (below_step (by repeat (first | (with_reducible first | exact HB.out | apply below_alloc | apply pw_below_drewN | apply below_drew1) | exact HB.out)) hb); clear HB; have HB := n0_; clear n0_; (try clear hb); (try clear hb2); (try clear hk); (try clear hi)))
  go_ret2
  exact ⟨_, by first | rfl | (simp [errW_none, errW_some] <;> rfl) | (simp [*, errW_none, errW_some] <;> rfl), by first | exact Kd.R_nil _ _ _ _ _ | exact Kd.N_nil _ _ _ _ _ | exact Kd.V_nil _ _ _ _ _ | exact Kd.Q_nil _ _ _ _ _ | exact Kd.S_nil _ _ _ _ _, by repeat (first | (with_reducible first | exact HB.out | apply below_alloc | apply pw_below_drewN | apply below_drew1) | exact HB.out)⟩

end Go.Proofs.YtdonlmbhamcjdaaRRR.H
