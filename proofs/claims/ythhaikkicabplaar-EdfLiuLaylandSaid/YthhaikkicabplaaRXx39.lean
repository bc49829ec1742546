/- Proved here: what the machine does at calls of the functions that the laws reach is what plain functions of the same names say, or a row of the given statement out of that. No conditions. Written by a program of this session over the printer of the kit. -/
import Derived.Test.YthhaikkicabplaaRXx0
import Derived.Test.YthhaikkicabplaaRXx9
import Derived.Test.YthhaikkicabplaaRXx10
import Derived.Test.YthhaikkicabplaaRXx18
import Derived.Test.YthhaikkicabplaaRXx23
import Derived.Test.YthhaikkicabplaaRXx27
import Derived.Test.YthhaikkicabplaaRXx37
import Derived.Test.YthhaikkicabplaaRXx38
namespace Go.Proofs.YthhaikkicabplaaR.X
open Go.RowKit Go.Proofs.YthhaikkicabplaaRW.PrintWords Go.Proofs.YthhaikkicabplaaRW.PrintLast Go.Proofs.YthhaikkicabplaaRW.PrintMore
attribute [local go_sem] max2_int min2_int max_two min_two max_three min_three max_four min_four   -- for this text's walks alone
set_option linter.unusedVariables false
set_option linter.unusedSimpArgs false

/-! ### tithelaw10_EdfLiuLayland: function 9 -/
mutual
def tithelaw10_EdfLiuLayland.j0 : Nat → List (S43) → Int → Int → Option Int → List Int → Option Int → Bool → Option (Bool)
 | 0, _, _, _, _, _, _, _ => none
 | k + 1, x0, x1, x5, x6, x7, x8, x40 => if x40 = true then (if x6.isNone = true then (if x8.isNone = true then (if (true == true) = true then ((tithelaw10_works.f k).bind fun t414 => (some t414)) else (some false)) else (if (true == false) = true then ((tithelaw10_works.f k).bind fun t415 => (some t415)) else (some false))) else (if x8.isNone = true then (if (false == true) = true then ((tithelaw10_works.f k).bind fun t417 => (some t417)) else (some false)) else (if (false == false) = true then ((tithelaw10_works.f k).bind fun t418 => (some t418)) else (some false)))) else (if x5 > 1048576 then ((tithelaw10_works.f k).bind fun t419 => (some t419)) else ((tithelaw10_items.f k x0).bind fun t420 => ((edf_Missed.f k t420 x7).bind fun bt423 => (if bt423.2.isNone = true then (if (bt423.1.length : Int) = (x0.length : Int) then ((tithelaw10_some.f k bt423.1).bind fun t428 => (if t428 = true then (tithelaw10_EdfLiuLayland.j1 k x0 x1 x7 true) else (tithelaw10_EdfLiuLayland.j1 k x0 x1 x7 ((x7.length : Int) != x1)))) else (tithelaw10_EdfLiuLayland.j1 k x0 x1 x7 true)) else (tithelaw10_EdfLiuLayland.j1 k x0 x1 x7 true)))))
def tithelaw10_EdfLiuLayland.j1 : Nat → List (S43) → Int → List Int → Bool → Option (Bool)
 | 0, _, _, _, _ => none
 | k + 1, x0, x1, x7, x77 => if x77 = true then (some false) else (tithelaw10_EdfLiuLayland.l0 k x0 x1 x7 0)
def tithelaw10_EdfLiuLayland.l0 : Nat → List (S43) → Int → List Int → Int → Option (Bool)
 | 0, _, _, _, _ => none
 | k + 1, x0, x1, x7, x11 => if x11 < (x0.length : Int) then (if 0 ≤ x11 then (tithelaw10_EdfLiuLayland.l1 k x0 x1 x7 x11 ((rd_T43 x0 x11).f2) ((rd_T43 x0 x11).f0) ((rd_T43 x0 x11).f1) ((rd_T43 x0 x11).f2)) else (none)) else ((tithelaw10_works.f k).bind fun t429 => (some t429))
def tithelaw10_EdfLiuLayland.l1 : Nat → List (S43) → Int → List Int → Int → Int → Int → Int → Int → Option (Bool)
 | 0, _, _, _, _, _, _, _, _ => none
 | k + 1, x0, x1, x7, x11, x13, x432000, x432001, x432002 => if (wrap64 (x13 + x432001)) ≤ x1 then (tithelaw10_EdfLiuLayland.l2 k x0 x1 x7 x11 x13 0 x13 x432000 x432001 x432002) else (tithelaw10_EdfLiuLayland.l0 k x0 x1 x7 (wrap64 (x11 + 1)))
def tithelaw10_EdfLiuLayland.l2 : Nat → List (S43) → Int → List Int → Int → Int → Int → Int → Int → Int → Int → Option (Bool)
 | 0, _, _, _, _, _, _, _, _, _, _ => none
 | k + 1, x0, x1, x7, x11, x13, x14, x15, x432000, x432001, x432002 => if x15 < (wrap64 (x13 + x432001)) then (if 0 ≤ x15 then (if x15 < (x7.length : Int) then (if (rd x7 x15) = x11 then (tithelaw10_EdfLiuLayland.l2 k x0 x1 x7 x11 x13 (wrap64 (x14 + 1)) (wrap64 (x15 + 1)) x432000 x432001 x432002) else (tithelaw10_EdfLiuLayland.l2 k x0 x1 x7 x11 x13 x14 (wrap64 (x15 + 1)) x432000 x432001 x432002)) else (none)) else (none)) else (if x14 = x432000 then ((edf_Lag.f k x432000 x432001 x432002 x14 (wrap64 (x432002 + x432001))).bind fun bt433 => (if bt433.2.isNone = true then (if bt433.1 = 0 then (tithelaw10_EdfLiuLayland.l1 k x0 x1 x7 x11 (wrap64 (x13 + x432001)) x432000 x432001 x432002) else (some false)) else (some false))) else (some false))
end
def tithelaw10_EdfLiuLayland.f (k : Nat) (l0 : List (S43)) (a1 : Int) : Option (Bool) := (tithelaw10_items.f k l0).bind fun t398 => ((edf_Load.f k t398).bind fun bt401 => ((tithelaw10_items.f k l0).bind fun t403 => ((edf_Plan.f k t403 (Int.tmod (wrap64 ((Int.tmod a1 500) + 500)) 500)).bind fun bt406 => (if bt401.2.isNone = true then (if bt406.2.isNone = true then (tithelaw10_EdfLiuLayland.j0 k l0 (Int.tmod (wrap64 ((Int.tmod a1 500) + 500)) 500) bt401.1 none bt406.1 none false) else (tithelaw10_EdfLiuLayland.j0 k l0 (Int.tmod (wrap64 ((Int.tmod a1 500) + 500)) 500) bt401.1 none bt406.1 (some (bt406.2.getD 0)) true)) else (tithelaw10_EdfLiuLayland.j0 k l0 (Int.tmod (wrap64 ((Int.tmod a1 500) + 500)) 500) bt401.1 (some (bt401.2.getD 0)) bt406.1 bt406.2 true)))))
theorem tithelaw10_EdfLiuLayland.mono_l : ∀ k, (∀ y0 y1 y2 y3 y4 y5 y6, LeO (tithelaw10_EdfLiuLayland.j0 k y0 y1 y2 y3 y4 y5 y6) (tithelaw10_EdfLiuLayland.j0 (k + 1) y0 y1 y2 y3 y4 y5 y6)) ∧ (∀ y0 y1 y2 y3, LeO (tithelaw10_EdfLiuLayland.j1 k y0 y1 y2 y3) (tithelaw10_EdfLiuLayland.j1 (k + 1) y0 y1 y2 y3)) ∧ (∀ y0 y1 y2 y3, LeO (tithelaw10_EdfLiuLayland.l0 k y0 y1 y2 y3) (tithelaw10_EdfLiuLayland.l0 (k + 1) y0 y1 y2 y3)) ∧ (∀ y0 y1 y2 y3 y4 y5 y6 y7, LeO (tithelaw10_EdfLiuLayland.l1 k y0 y1 y2 y3 y4 y5 y6 y7) (tithelaw10_EdfLiuLayland.l1 (k + 1) y0 y1 y2 y3 y4 y5 y6 y7)) ∧ (∀ y0 y1 y2 y3 y4 y5 y6 y7 y8 y9, LeO (tithelaw10_EdfLiuLayland.l2 k y0 y1 y2 y3 y4 y5 y6 y7 y8 y9) (tithelaw10_EdfLiuLayland.l2 (k + 1) y0 y1 y2 y3 y4 y5 y6 y7 y8 y9))
 | 0 => ⟨fun _ _ _ _ _ _ _ r h => by simp [tithelaw10_EdfLiuLayland.j0] at h, fun _ _ _ _ r h => by simp [tithelaw10_EdfLiuLayland.j1] at h, fun _ _ _ _ r h => by simp [tithelaw10_EdfLiuLayland.l0] at h, fun _ _ _ _ _ _ _ _ r h => by simp [tithelaw10_EdfLiuLayland.l1] at h, fun _ _ _ _ _ _ _ _ _ _ r h => by simp [tithelaw10_EdfLiuLayland.l2] at h⟩
 | k + 1 => by
  obtain ⟨ih0, ih1, ih2, ih3, ih4⟩ := tithelaw10_EdfLiuLayland.mono_l k
  refine ⟨?_, ?_, ?_, ?_, ?_⟩
  ·intro y0 y1 y2 y3 y4 y5 y6
   unfold tithelaw10_EdfLiuLayland.j0
   repeat' first
   | (with_reducible exact ih0 _ _ _ _ _ _ _)
   | (with_reducible exact ih1 _ _ _ _)
   | (with_reducible exact ih2 _ _ _ _)
   | (with_reducible exact ih3 _ _ _ _ _ _ _ _)
   | (with_reducible exact ih4 _ _ _ _ _ _ _ _ _ _)
   | (with_reducible exact edf_Lag.mono _ _ _ _ _ _)
   | (with_reducible exact edf_Load.mono _ _)
   | (with_reducible exact edf_Missed.mono _ _ _)
   | (with_reducible exact edf_Plan.mono _ _ _)
   | (with_reducible exact tithelaw10_items.mono _ _)
   | (with_reducible exact tithelaw10_some.mono _ _)
   | (with_reducible exact tithelaw10_works.mono _)
   | (with_reducible exact LeO.refl _)
   | (with_reducible exact LeO.none _)
   | (with_reducible refine LeO.ite ?_ ?_)
   | (with_reducible refine LeO.bind ?_ (fun _ => ?_))
   | exact ih0 _ _ _ _ _ _ _
   | exact ih1 _ _ _ _
   | exact ih2 _ _ _ _
   | exact ih3 _ _ _ _ _ _ _ _
   | exact ih4 _ _ _ _ _ _ _ _ _ _
   | exact edf_Lag.mono _ _ _ _ _ _
   | exact edf_Load.mono _ _
   | exact edf_Missed.mono _ _ _
   | exact edf_Plan.mono _ _ _
   | exact tithelaw10_items.mono _ _
   | exact tithelaw10_some.mono _ _
   | exact tithelaw10_works.mono _
   | exact LeO.none _
   | refine LeO.ite ?_ ?_
   | refine LeO.bind ?_ (fun _ => ?_)
  ·intro y0 y1 y2 y3
   unfold tithelaw10_EdfLiuLayland.j1
   repeat' first
   | (with_reducible exact ih0 _ _ _ _ _ _ _)
   | (with_reducible exact ih1 _ _ _ _)
   | (with_reducible exact ih2 _ _ _ _)
   | (with_reducible exact ih3 _ _ _ _ _ _ _ _)
   | (with_reducible exact ih4 _ _ _ _ _ _ _ _ _ _)
   | (with_reducible exact edf_Lag.mono _ _ _ _ _ _)
   | (with_reducible exact edf_Load.mono _ _)
   | (with_reducible exact edf_Missed.mono _ _ _)
   | (with_reducible exact edf_Plan.mono _ _ _)
   | (with_reducible exact tithelaw10_items.mono _ _)
   | (with_reducible exact tithelaw10_some.mono _ _)
   | (with_reducible exact tithelaw10_works.mono _)
   | (with_reducible exact LeO.refl _)
   | (with_reducible exact LeO.none _)
   | (with_reducible refine LeO.ite ?_ ?_)
   | (with_reducible refine LeO.bind ?_ (fun _ => ?_))
   | exact ih0 _ _ _ _ _ _ _
   | exact ih1 _ _ _ _
   | exact ih2 _ _ _ _
   | exact ih3 _ _ _ _ _ _ _ _
   | exact ih4 _ _ _ _ _ _ _ _ _ _
   | exact edf_Lag.mono _ _ _ _ _ _
   | exact edf_Load.mono _ _
   | exact edf_Missed.mono _ _ _
   | exact edf_Plan.mono _ _ _
   | exact tithelaw10_items.mono _ _
   | exact tithelaw10_some.mono _ _
   | exact tithelaw10_works.mono _
   | exact LeO.none _
   | refine LeO.ite ?_ ?_
   | refine LeO.bind ?_ (fun _ => ?_)
  ·intro y0 y1 y2 y3
   unfold tithelaw10_EdfLiuLayland.l0
   repeat' first
   | (with_reducible exact ih0 _ _ _ _ _ _ _)
   | (with_reducible exact ih1 _ _ _ _)
   | (with_reducible exact ih2 _ _ _ _)
   | (with_reducible exact ih3 _ _ _ _ _ _ _ _)
   | (with_reducible exact ih4 _ _ _ _ _ _ _ _ _ _)
   | (with_reducible exact edf_Lag.mono _ _ _ _ _ _)
   | (with_reducible exact edf_Load.mono _ _)
   | (with_reducible exact edf_Missed.mono _ _ _)
   | (with_reducible exact edf_Plan.mono _ _ _)
   | (with_reducible exact tithelaw10_items.mono _ _)
   | (with_reducible exact tithelaw10_some.mono _ _)
   | (with_reducible exact tithelaw10_works.mono _)
   | (with_reducible exact LeO.refl _)
   | (with_reducible exact LeO.none _)
   | (with_reducible refine LeO.ite ?_ ?_)
   | (with_reducible refine LeO.bind ?_ (fun _ => ?_))
   | exact ih0 _ _ _ _ _ _ _
   | exact ih1 _ _ _ _
   | exact ih2 _ _ _ _
   | exact ih3 _ _ _ _ _ _ _ _
   | exact ih4 _ _ _ _ _ _ _ _ _ _
   | exact edf_Lag.mono _ _ _ _ _ _
   | exact edf_Load.mono _ _
   | exact edf_Missed.mono _ _ _
   | exact edf_Plan.mono _ _ _
   | exact tithelaw10_items.mono _ _
   | exact tithelaw10_some.mono _ _
   | exact tithelaw10_works.mono _
   | exact LeO.none _
   | refine LeO.ite ?_ ?_
   | refine LeO.bind ?_ (fun _ => ?_)
  ·intro y0 y1 y2 y3 y4 y5 y6 y7
   unfold tithelaw10_EdfLiuLayland.l1
   repeat' first
   | (with_reducible exact ih0 _ _ _ _ _ _ _)
   | (with_reducible exact ih1 _ _ _ _)
   | (with_reducible exact ih2 _ _ _ _)
   | (with_reducible exact ih3 _ _ _ _ _ _ _ _)
   | (with_reducible exact ih4 _ _ _ _ _ _ _ _ _ _)
   | (with_reducible exact edf_Lag.mono _ _ _ _ _ _)
   | (with_reducible exact edf_Load.mono _ _)
   | (with_reducible exact edf_Missed.mono _ _ _)
   | (with_reducible exact edf_Plan.mono _ _ _)
   | (with_reducible exact tithelaw10_items.mono _ _)
   | (with_reducible exact tithelaw10_some.mono _ _)
   | (with_reducible exact tithelaw10_works.mono _)
   | (with_reducible exact LeO.refl _)
   | (with_reducible exact LeO.none _)
   | (with_reducible refine LeO.ite ?_ ?_)
   | (with_reducible refine LeO.bind ?_ (fun _ => ?_))
   | exact ih0 _ _ _ _ _ _ _
   | exact ih1 _ _ _ _
   | exact ih2 _ _ _ _
   | exact ih3 _ _ _ _ _ _ _ _
   | exact ih4 _ _ _ _ _ _ _ _ _ _
   | exact edf_Lag.mono _ _ _ _ _ _
   | exact edf_Load.mono _ _
   | exact edf_Missed.mono _ _ _
   | exact edf_Plan.mono _ _ _
   | exact tithelaw10_items.mono _ _
   | exact tithelaw10_some.mono _ _
   | exact tithelaw10_works.mono _
   | exact LeO.none _
   | refine LeO.ite ?_ ?_
   | refine LeO.bind ?_ (fun _ => ?_)
  ·intro y0 y1 y2 y3 y4 y5 y6 y7 y8 y9
   unfold tithelaw10_EdfLiuLayland.l2
   repeat' first
   | (with_reducible exact ih0 _ _ _ _ _ _ _)
   | (with_reducible exact ih1 _ _ _ _)
   | (with_reducible exact ih2 _ _ _ _)
   | (with_reducible exact ih3 _ _ _ _ _ _ _ _)
   | (with_reducible exact ih4 _ _ _ _ _ _ _ _ _ _)
   | (with_reducible exact edf_Lag.mono _ _ _ _ _ _)
   | (with_reducible exact edf_Load.mono _ _)
   | (with_reducible exact edf_Missed.mono _ _ _)
   | (with_reducible exact edf_Plan.mono _ _ _)
   | (with_reducible exact tithelaw10_items.mono _ _)
   | (with_reducible exact tithelaw10_some.mono _ _)
   | (with_reducible exact tithelaw10_works.mono _)
   | (with_reducible exact LeO.refl _)
   | (with_reducible exact LeO.none _)
   | (with_reducible refine LeO.ite ?_ ?_)
   | (with_reducible refine LeO.bind ?_ (fun _ => ?_))
   | exact ih0 _ _ _ _ _ _ _
   | exact ih1 _ _ _ _
   | exact ih2 _ _ _ _
   | exact ih3 _ _ _ _ _ _ _ _
   | exact ih4 _ _ _ _ _ _ _ _ _ _
   | exact edf_Lag.mono _ _ _ _ _ _
   | exact edf_Load.mono _ _
   | exact edf_Missed.mono _ _ _
   | exact edf_Plan.mono _ _ _
   | exact tithelaw10_items.mono _ _
   | exact tithelaw10_some.mono _ _
   | exact tithelaw10_works.mono _
   | exact LeO.none _
   | refine LeO.ite ?_ ?_
   | refine LeO.bind ?_ (fun _ => ?_)
theorem tithelaw10_EdfLiuLayland.mono : ∀ a0 a1 k, LeO (tithelaw10_EdfLiuLayland.f k a0 a1) (tithelaw10_EdfLiuLayland.f (k + 1) a0 a1) := by
 intro a0 a1 k
 obtain ⟨ih0, ih1, ih2, ih3, ih4⟩ := tithelaw10_EdfLiuLayland.mono_l k
 unfold tithelaw10_EdfLiuLayland.f
 repeat' first
   | (with_reducible exact ih0 _ _ _ _ _ _ _)
   | (with_reducible exact ih1 _ _ _ _)
   | (with_reducible exact ih2 _ _ _ _)
   | (with_reducible exact ih3 _ _ _ _ _ _ _ _)
   | (with_reducible exact ih4 _ _ _ _ _ _ _ _ _ _)
   | (with_reducible exact edf_Lag.mono _ _ _ _ _ _)
   | (with_reducible exact edf_Load.mono _ _)
   | (with_reducible exact edf_Missed.mono _ _ _)
   | (with_reducible exact edf_Plan.mono _ _ _)
   | (with_reducible exact tithelaw10_items.mono _ _)
   | (with_reducible exact tithelaw10_some.mono _ _)
   | (with_reducible exact tithelaw10_works.mono _)
   | (with_reducible exact LeO.refl _)
   | (with_reducible exact LeO.none _)
   | (with_reducible refine LeO.ite ?_ ?_)
   | (with_reducible refine LeO.bind ?_ (fun _ => ?_))
   | exact ih0 _ _ _ _ _ _ _
   | exact ih1 _ _ _ _
   | exact ih2 _ _ _ _
   | exact ih3 _ _ _ _ _ _ _ _
   | exact ih4 _ _ _ _ _ _ _ _ _ _
   | exact edf_Lag.mono _ _ _ _ _ _
   | exact edf_Load.mono _ _
   | exact edf_Missed.mono _ _ _
   | exact edf_Plan.mono _ _ _
   | exact tithelaw10_items.mono _ _
   | exact tithelaw10_some.mono _ _
   | exact tithelaw10_works.mono _
   | exact LeO.none _
   | refine LeO.ite ?_ ?_
   | refine LeO.bind ?_ (fun _ => ?_)
def tithelaw10_EdfLiuLayland.T5 : Bool × List (List Nat × List Nat) := (true, [([], []), ([0], [0]), ([], []), ([2], [2]), ([1, 3], [1, 3]), ([4], [4]), ([5, 5], [5]), ([5, 6], [5, 6]), ([7, 6, 0, 1, 2, 3, 4, 5, 6, 7], [7])])
def tithelaw10_EdfLiuLayland.B5 : List Nat := [0, 1, 0, 4, 15, 31, 63, 127, 255]
theorem tithelaw10_EdfLiuLayland.tab5 : rtab .any (opsOf Try.f9 5) = tithelaw10_EdfLiuLayland.T5 := by kernel_rfl
theorem tithelaw10_EdfLiuLayland.bits5 : waitsOk tithelaw10_EdfLiuLayland.T5.2 tithelaw10_EdfLiuLayland.B5 = true := by kernel_rfl
set_option maxHeartbeats 8000000 in
set_option maxRecDepth 100000 in
theorem tithelaw10_EdfLiuLayland.calls (k : Nat) (A0 : Option Addr) (c0 : Nat) (l0 : List (S43)) (a1 : Int) (r : Bool) (w : World) (hr0 : Kd.C k43 w A0 l0.length l0) (hc0 : l0.length ≤ c0) (h : tithelaw10_EdfLiuLayland.f k l0 a1 = some r) :
  Calls Try.prog 9 #[.slice A0 l0.length c0, .int .i64 a1] w fun e w' => e = .returned (.bool r) ∧ Below w.heap.size w w' := by
 have hu43 := Try.underlying43
 have hu25 := Try.underlying25
 have hu66 := Try.underlying66
 have HR0 := Aside0.mk hr0
 have HC0 := Aside0.mk hc0
 clear hr0 hc0
 have HB := Aside0.mk (Below.refl w.heap.size w)
 have H : ((tithelaw10_items.f k l0).bind fun t398 => ((edf_Load.f k t398).bind fun bt401 => ((tithelaw10_items.f k l0).bind fun t403 => ((edf_Plan.f k t403 (Int.tmod (wrap64 ((Int.tmod a1 500) + 500)) 500)).bind fun bt406 => (if bt401.2.isNone = true then (if bt406.2.isNone = true then (tithelaw10_EdfLiuLayland.j0 k l0 (Int.tmod (wrap64 ((Int.tmod a1 500) + 500)) 500) bt401.1 none bt406.1 none false) else (tithelaw10_EdfLiuLayland.j0 k l0 (Int.tmod (wrap64 ((Int.tmod a1 500) + 500)) 500) bt401.1 none bt406.1 (some (bt406.2.getD 0)) true)) else (tithelaw10_EdfLiuLayland.j0 k l0 (Int.tmod (wrap64 ((Int.tmod a1 500) + 500)) 500) bt401.1 (some (bt401.2.getD 0)) bt406.1 bt406.2 true)))))) = some r := h
 clear h
 replace H := Option.bind_eq_some_iff.mp H
 obtain ⟨t398, A30, H⟩ := H
 replace H : ((edf_Load.f k t398).bind fun bt401 => ((tithelaw10_items.f k l0).bind fun t403 => ((edf_Plan.f k t403 (Int.tmod (wrap64 ((Int.tmod a1 500) + 500)) 500)).bind fun bt406 => (if bt401.2.isNone = true then (if bt406.2.isNone = true then (tithelaw10_EdfLiuLayland.j0 k l0 (Int.tmod (wrap64 ((Int.tmod a1 500) + 500)) 500) bt401.1 none bt406.1 none false) else (tithelaw10_EdfLiuLayland.j0 k l0 (Int.tmod (wrap64 ((Int.tmod a1 500) + 500)) 500) bt401.1 none bt406.1 (some (bt406.2.getD 0)) true)) else (tithelaw10_EdfLiuLayland.j0 k l0 (Int.tmod (wrap64 ((Int.tmod a1 500) + 500)) 500) bt401.1 (some (bt401.2.getD 0)) bt406.1 bt406.2 true))))) = some r := H
 have A3 := Aside0.mk A30
 clear A30
 replace H := Option.bind_eq_some_iff.mp H
 obtain ⟨⟨t401, t402⟩, A40, H⟩ := H
 replace H : ((tithelaw10_items.f k l0).bind fun t403 => ((edf_Plan.f k t403 (Int.tmod (wrap64 ((Int.tmod a1 500) + 500)) 500)).bind fun bt406 => (if t402.isNone = true then (if bt406.2.isNone = true then (tithelaw10_EdfLiuLayland.j0 k l0 (Int.tmod (wrap64 ((Int.tmod a1 500) + 500)) 500) t401 none bt406.1 none false) else (tithelaw10_EdfLiuLayland.j0 k l0 (Int.tmod (wrap64 ((Int.tmod a1 500) + 500)) 500) t401 none bt406.1 (some (bt406.2.getD 0)) true)) else (tithelaw10_EdfLiuLayland.j0 k l0 (Int.tmod (wrap64 ((Int.tmod a1 500) + 500)) 500) t401 (some (t402.getD 0)) bt406.1 bt406.2 true)))) = some r := H
 have A4 := Aside0.mk A40
 clear A40
 replace H := Option.bind_eq_some_iff.mp H
 obtain ⟨t403, A50, H⟩ := H
 replace H : ((edf_Plan.f k t403 (Int.tmod (wrap64 ((Int.tmod a1 500) + 500)) 500)).bind fun bt406 => (if t402.isNone = true then (if bt406.2.isNone = true then (tithelaw10_EdfLiuLayland.j0 k l0 (Int.tmod (wrap64 ((Int.tmod a1 500) + 500)) 500) t401 none bt406.1 none false) else (tithelaw10_EdfLiuLayland.j0 k l0 (Int.tmod (wrap64 ((Int.tmod a1 500) + 500)) 500) t401 none bt406.1 (some (bt406.2.getD 0)) true)) else (tithelaw10_EdfLiuLayland.j0 k l0 (Int.tmod (wrap64 ((Int.tmod a1 500) + 500)) 500) t401 (some (t402.getD 0)) bt406.1 bt406.2 true))) = some r := H
 have A5 := Aside0.mk A50
 clear A50
 replace H := Option.bind_eq_some_iff.mp H
 obtain ⟨⟨t406, t407⟩, A60, H⟩ := H
 replace H : (if t402.isNone = true then (if t407.isNone = true then (tithelaw10_EdfLiuLayland.j0 k l0 (Int.tmod (wrap64 ((Int.tmod a1 500) + 500)) 500) t401 none t406 none false) else (tithelaw10_EdfLiuLayland.j0 k l0 (Int.tmod (wrap64 ((Int.tmod a1 500) + 500)) 500) t401 none t406 (some (t407.getD 0)) true)) else (tithelaw10_EdfLiuLayland.j0 k l0 (Int.tmod (wrap64 ((Int.tmod a1 500) + 500)) 500) t401 (some (t402.getD 0)) t406 t407 true)) = some r := H
 have A6 := Aside0.mk A60
 clear A60
 have HC7 := Aside0.mk H
 clear H
 go_enter Try.func9, Try.ntmps9
 go_upto_region 4 with (first | ((with_reducible refine gate_callee (f := 13) rfl ?_); refine goesL_ (some 24) rfl rfl Try.func13 (by kernel_rfl) rfl #[.slice A0 l0.length c0] rfl (by (try simp only [List.map_toArray, List.map_cons, List.map_nil]); first | done | rfl | (simp only [List.length_drop, List.length_take]; rfl)) ?_; (with_reducible refine (tithelaw10_items.calls k _ _ l0 t398 _ ?side1 ?side2 A3.out).mono ?_); (case side1 => repeat (first | exact HR0.out | (with_reducible refine Kd.C_alloc ?_ _) | (with_reducible refine Kd.C_drewN ?_ _) | (with_reducible refine Kd.C_drew ?_))); (case side2 => exact HC0.out); rintro e w8 ⟨v399, rfl, ho0, hb⟩; refine ⟨_, rfl, ?_⟩; have n0_ := Aside0.mk (Kd.R_lower ho0 (below_size (by repeat (first | (with_reducible first | exact HB.out | apply below_alloc | apply pw_below_drewN | apply below_drew1) | exact HB.out)))); have n1_ := Aside0.mk (below_step (by repeat (first | (with_reducible first | exact HB.out | apply below_alloc | apply pw_below_drewN | apply below_drew1) | exact HB.out)) hb); clear HB; have HO400 := n0_; have HB := n1_; clear n0_ n1_; (try clear hb); (try clear hb2); (try clear hk); (try clear hi); (try clear ho0); obtain ⟨Ao9, co9, eo9⟩ := Kd.R_slice HO400.out; subst eo9) | ((with_reducible refine gate_callee (f := 27) rfl ?_); refine goesL_ (some 25) rfl rfl Try.func27 (by kernel_rfl) rfl #[.slice Ao9 t398.length co9] rfl (by (try simp only [List.map_toArray, List.map_cons, List.map_nil]); first | done | rfl | (simp only [List.length_drop, List.length_take]; rfl)) ?_; (with_reducible refine (edf_Load.calls k _ _ t398 t401 t402 _ ?side1 ?side2 A4.out).mono ?_); (case side1 => repeat (first | exact (Kd.R_reads' HO400.out).2.2 | (with_reducible refine Kd.C_alloc ?_ _) | (with_reducible refine Kd.C_drewN ?_ _) | (with_reducible refine Kd.C_drew ?_))); (case side2 => exact (Kd.R_reads' HO400.out).2.1); rintro e w10 ⟨rfl, hb⟩; refine ⟨_, rfl, ?_⟩; have n0_ := Aside0.mk (Kd.R_below (by (with_reducible repeat (first | apply Kd.R_alloc | apply Kd.R_drewN | apply Kd.R_drew)); exact HO400.out) hb); have n1_ := Aside0.mk (below_step (by repeat (first | (with_reducible first | exact HB.out | apply below_alloc | apply pw_below_drewN | apply below_drew1) | exact HB.out)) hb); clear HO400; clear HB; have HO400 := n0_; have HB := n1_; clear n0_ n1_; (try clear hb); (try clear hb2); (try clear hk); (try clear hi); (try simp only [errW_none, errW_some])) | ((with_reducible refine gate_callee (f := 13) rfl ?_); refine goesL_ (some 30) rfl rfl Try.func13 (by kernel_rfl) rfl #[.slice A0 l0.length c0] rfl (by (try simp only [List.map_toArray, List.map_cons, List.map_nil]); first | done | rfl | (simp only [List.length_drop, List.length_take]; rfl)) ?_; (with_reducible refine (tithelaw10_items.calls k _ _ l0 t403 _ ?side1 ?side2 A5.out).mono ?_); (case side1 => repeat (first | exact (Kd.C_below HR0.out HB.out) | (with_reducible refine Kd.C_alloc ?_ _) | (with_reducible refine Kd.C_drewN ?_ _) | (with_reducible refine Kd.C_drew ?_))); (case side2 => exact HC0.out); rintro e w11 ⟨v404, rfl, ho0, hb⟩; refine ⟨_, rfl, ?_⟩; have n0_ := Aside0.mk (Kd.R_elder' (by (with_reducible repeat (first | apply Kd.R_alloc | apply Kd.R_drewN | apply Kd.R_drew)); exact HO400.out) (Kd.R_base ho0) hb); have n1_ := Aside0.mk (Kd.R_lower (Kd.R_new' ho0 (Kd.R_lt (by (with_reducible repeat (first | apply Kd.R_alloc | apply Kd.R_drewN | apply Kd.R_drew)); exact HO400.out))) (below_size (by repeat (first | (with_reducible first | exact HB.out | apply below_alloc | apply pw_below_drewN | apply below_drew1) | exact HB.out)))); have n2_ := Aside0.mk (below_step (by repeat (first | (with_reducible first | exact HB.out | apply below_alloc | apply pw_below_drewN | apply below_drew1) | exact HB.out)) hb); clear HO400; clear HB; have HO400 := n0_; have HO405 := n1_; have HB := n2_; clear n0_ n1_ n2_; (try clear hb); (try clear hb2); (try clear hk); (try clear hi); (try clear ho0); obtain ⟨Ao12, co12, eo12⟩ := Kd.R_slice HO405.out; subst eo12) | ((with_reducible refine gate_callee (f := 12) rfl ?_); refine goesL_ (some 32) rfl rfl Try.func12 (by kernel_rfl) rfl #[.slice Ao12 t403.length co12, .int .i64 (Int.tmod (wrap64 ((Int.tmod a1 500) + 500)) 500)] rfl (by (try simp only [List.map_toArray, List.map_cons, List.map_nil]); first | done | rfl | (simp only [List.length_drop, List.length_take]; rfl)) ?_; (with_reducible refine (edf_Plan.calls k _ _ t403 (Int.tmod (wrap64 ((Int.tmod a1 500) + 500)) 500) t406 t407 _ ?side1 ?side2 A6.out).mono ?_); (case side1 => repeat (first | exact (Kd.R_reads' HO405.out).2.2 | (with_reducible refine Kd.C_alloc ?_ _) | (with_reducible refine Kd.C_drewN ?_ _) | (with_reducible refine Kd.C_drew ?_))); (case side2 => exact (Kd.R_reads' HO405.out).2.1); rintro e w13 ⟨v408, rfl, ho0, hb⟩; refine ⟨_, rfl, ?_⟩; have n0_ := Aside0.mk (Kd.R_below (by (with_reducible repeat (first | apply Kd.R_alloc | apply Kd.R_drewN | apply Kd.R_drew)); exact HO400.out) hb); have n1_ := Aside0.mk (Kd.R_below (by (with_reducible repeat (first | apply Kd.R_alloc | apply Kd.R_drewN | apply Kd.R_drew)); exact HO405.out) hb); have n2_ := Aside0.mk (Kd.R_lower ho0 (below_size (by repeat (first | (with_reducible first | exact HB.out | apply below_alloc | apply pw_below_drewN | apply below_drew1) | exact HB.out)))); have n3_ := Aside0.mk (below_step (by repeat (first | (with_reducible first | exact HB.out | apply below_alloc | apply pw_below_drewN | apply below_drew1) | exact HB.out)) hb); clear HO400; clear HO405; clear HB; have HO400 := n0_; have HO405 := n1_; have HO409 := n2_; have HB := n3_; clear n0_ n1_ n2_ n3_; (try clear hb); (try clear hb2); (try clear hk); (try clear hi); (try clear ho0); (try simp only [errW_none, errW_some])))
 (try simp only [Act.put, List.setIfInBounds_toArray, List.set_cons_zero, List.set_cons_succ])
 go_cut [40] (fun v40 wc => ∃ (kq : Nat) (x40_6 : Bool), v40 = .bool x40_6 ∧ Aside0 (tithelaw10_EdfLiuLayland.j0 kq l0 (Int.tmod (wrap64 ((Int.tmod a1 500) + 500)) 500) t401 t402 t406 t407 x40_6 = some r) ∧ Aside0 (kq ≤ k) ∧ Aside0 (Kd.R (Kd.int .i64) 3 wc w.heap.size (fun _ => True) v408 t406) ∧ Aside0 (Below w.heap.size w wc))
 case first =>
  have H := HC7.out
  clear HC7
  rcases t402 with _ | q410
  ·have H1 : (if t407.isNone = true then (tithelaw10_EdfLiuLayland.j0 k l0 (Int.tmod (wrap64 ((Int.tmod a1 500) + 500)) 500) t401 none t406 none false) else (tithelaw10_EdfLiuLayland.j0 k l0 (Int.tmod (wrap64 ((Int.tmod a1 500) + 500)) 500) t401 none t406 (some (t407.getD 0)) true)) = some r := by rw [if_pos (show (none : Option Int).isNone = true by rfl)] at H; exact H
   clear H
   have H := H1
   clear H1
   try simp only [errW_none, errW_some]
   rcases t407 with _ | q411
   ·have H1 : (tithelaw10_EdfLiuLayland.j0 k l0 (Int.tmod (wrap64 ((Int.tmod a1 500) + 500)) 500) t401 none t406 none false) = some r := by rw [if_pos (show (none : Option Int).isNone = true by rfl)] at H; exact H
    clear H
    have H := H1
    clear H1
    try simp only [errW_none, errW_some]
    have H' := Aside0.mk H
    clear H
    go_wp2
    go_meet
    case rel => exact ⟨_, (false), (by first | rfl | (simp; done) | (simp [*]; done)), H', ⟨by first | omega | exact Nat.le_refl _⟩, ⟨by (with_reducible repeat (first | apply Kd.R_alloc | apply Kd.R_drewN | apply Kd.R_drew)); exact HO409.out⟩, ⟨by repeat (first | (with_reducible first | exact HB.out | apply below_alloc | apply pw_below_drewN | apply below_drew1) | exact HB.out)⟩⟩
   ·have H1 : (tithelaw10_EdfLiuLayland.j0 k l0 (Int.tmod (wrap64 ((Int.tmod a1 500) + 500)) 500) t401 none t406 (some q411) true) = some r := by rw [if_neg (show ¬ (some q411).isNone = true by simp)] at H; exact H
    clear H
    have H := H1
    clear H1
    try simp only [errW_none, errW_some]
    have H' := Aside0.mk H
    clear H
    go_wp2
    go_meet
    case rel => exact ⟨_, (true), (by first | rfl | (simp; done) | (simp [*]; done)), H', ⟨by first | omega | exact Nat.le_refl _⟩, ⟨by (with_reducible repeat (first | apply Kd.R_alloc | apply Kd.R_drewN | apply Kd.R_drew)); exact HO409.out⟩, ⟨by repeat (first | (with_reducible first | exact HB.out | apply below_alloc | apply pw_below_drewN | apply below_drew1) | exact HB.out)⟩⟩
  ·have H1 : (tithelaw10_EdfLiuLayland.j0 k l0 (Int.tmod (wrap64 ((Int.tmod a1 500) + 500)) 500) t401 (some q410) t406 t407 true) = some r := by rw [if_neg (show ¬ (some q410).isNone = true by simp)] at H; exact H
   clear H
   have H := H1
   clear H1
   try simp only [errW_none, errW_some]
   have H' := Aside0.mk H
   clear H
   go_wp2
   go_meet
   case rel => exact ⟨_, (true), (by first | rfl | (simp; done) | (simp [*]; done)), H', ⟨by first | omega | exact Nat.le_refl _⟩, ⟨by (with_reducible repeat (first | apply Kd.R_alloc | apply Kd.R_drewN | apply Kd.R_drew)); exact HO409.out⟩, ⟨by repeat (first | (with_reducible first | exact HB.out | apply below_alloc | apply pw_below_drewN | apply below_drew1) | exact HB.out)⟩⟩
 case rest =>
  clear HC7
  try clear c1
  try clear c2
  try clear p2
  try clear q4
  try clear p6
  try clear c9
  try clear c12
  try clear c13
  try clear q410
  try clear q411
  obtain ⟨kq, x40_6, rfl, HA, HJ6, HO_7, HB⟩ := hcut
  cases kq with
  | zero => exact absurd HA.out (by simp [tithelaw10_EdfLiuLayland.j0])
  | succ kj6 =>
   have H := HA.out
   clear HA
   simp only [tithelaw10_EdfLiuLayland.j0] at H
   by_cases c14 : x40_6 = true
   ·subst c14
    have H1 : (if t402.isNone = true then (if t407.isNone = true then (if (true == true) = true then ((tithelaw10_works.f kj6).bind fun t414 => (some t414)) else (some false)) else (if (true == false) = true then ((tithelaw10_works.f kj6).bind fun t415 => (some t415)) else (some false))) else (if t407.isNone = true then (if (false == true) = true then ((tithelaw10_works.f kj6).bind fun t417 => (some t417)) else (some false)) else (if (false == false) = true then ((tithelaw10_works.f kj6).bind fun t418 => (some t418)) else (some false)))) = some r := by rw [if_pos rfl] at H; exact H
    clear H
    have H := H1
    clear H1
    rcases t402 with _ | q412
    ·have H1 : (if t407.isNone = true then (if (true == true) = true then ((tithelaw10_works.f kj6).bind fun t414 => (some t414)) else (some false)) else (if (true == false) = true then ((tithelaw10_works.f kj6).bind fun t415 => (some t415)) else (some false))) = some r := by rw [if_pos (show (none : Option Int).isNone = true by rfl)] at H; exact H
     clear H
     have H := H1
     clear H1
     try simp only [errW_none, errW_some]
     rcases t407 with _ | q413
     ·have H1 : (if (true == true) = true then ((tithelaw10_works.f kj6).bind fun t414 => (some t414)) else (some false)) = some r := by rw [if_pos (show (none : Option Int).isNone = true by rfl)] at H; exact H
      clear H
      have H := H1
      clear H1
      try simp only [errW_none, errW_some]
      by_cases c15 : (true == true) = true
      ·rw [if_pos c15] at H
       have c15b0 : (true == true) = true := c15
       (try (have c15b1 : decide (true = true) = true := by first | (simp; done) | (simp at c15; done) | simpa using c15))
       (try (have c15b2 : (true == true) = true := by first | (simp; done) | (simp at c15; done) | simpa using c15))
       clear c15
       replace H := Option.bind_eq_some_iff.mp H
       obtain ⟨t414, A160, H⟩ := H
       replace H : (some t414) = some r := H
       have A16 := Aside0.mk A160
       clear A160
       obtain rfl := Option.some.inj H
       try go_wp2
       have n0_ := Aside0.mk (Kd.R_drew HO_7.out)
       have n1_ := Aside0.mk (below_drew1 HB.out)
       clear HO_7
       clear HB
       have HO_7 := n0_
       have HB := n1_
       clear n0_ n1_
       refine start_ (n := 9) (S := fun w' => True) (ds := []) #[false, false, false, false, false, false, false, false, false] (by kernel_rfl) rfl rfl trivial (fun hHeld => ?_); refine with_tabW tithelaw10_EdfLiuLayland.tab5 tithelaw10_EdfLiuLayland.bits5 (fun HT_ HW_ => ?_)
       generalize wc.drew = w17 at HO_7 HB hHeld ⊢
       refine pure_ (i := 0) (N := some 41) (v := ?_) (a' := ?_) #[true, false, false, false, false, false, false, false, false] rfl rfl (any_of HT_.out (by kernel_rfl)) (fun _ _ _ h => h) (Or.inl ⟨by rfl, ?_⟩) ?_ ?_
       rotate_left
       ·intro w'
        go_simp
        with_reducible rfl
       rotate_left
       ·simp only [Act.put, List.setIfInBounds_toArray, List.set_cons_zero, List.set_cons_succ, i64_w, i32_w]
        rfl
       refine pure_ (i := 1) (N := some 42) (v := ?_) (a' := ?_) #[true, true, false, false, false, false, false, false, false] rfl rfl (any_of HT_.out (by kernel_rfl)) (fun _ _ _ h => h) (Or.inl ⟨by rfl, ?_⟩) ?_ ?_
       rotate_left
       ·intro w'
        go_simp
        with_reducible rfl
       rotate_left
       ·simp only [Act.put, List.setIfInBounds_toArray, List.set_cons_zero, List.set_cons_succ, i64_w, i32_w]
        rfl
       refine pure_ (i := 2) (N := some 43) (v := ?_) (a' := ?_) #[true, true, true, false, false, false, false, false, false] rfl rfl (any_of HT_.out (by kernel_rfl)) (fun _ _ _ h => h) (Or.inl ⟨by rfl, ?_⟩) ?_ ?_
       rotate_left
       ·intro w'
        go_simp
        with_reducible rfl
       rotate_left
       ·simp only [Act.put, List.setIfInBounds_toArray, List.set_cons_zero, List.set_cons_succ, i64_w, i32_w]
        rfl
       refine pure_ (i := 3) (N := some 44) (v := ?_) (a' := ?_) #[true, true, true, true, false, false, false, false, false] rfl rfl (any_of HT_.out (by kernel_rfl)) (fun _ _ _ h => h) (Or.inl ⟨by rfl, ?_⟩) ?_ ?_
       rotate_left
       ·intro w'
        go_simp
        with_reducible rfl
       rotate_left
       ·simp only [Act.put, List.setIfInBounds_toArray, List.set_cons_zero, List.set_cons_succ, i64_w, i32_w]
        rfl
       refine pure_ (i := 4) (N := some 45) (v := ?_) (a' := ?_) #[true, true, true, true, true, false, false, false, false] rfl rfl (any_of HT_.out (by kernel_rfl)) (fun _ _ _ h => h) (Or.inl ⟨by rfl, ?_⟩) ?_ ?_
       rotate_left
       ·intro w'
        go_simp
        with_reducible rfl
       rotate_left
       ·simp only [Act.put, List.setIfInBounds_toArray, List.set_cons_zero, List.set_cons_succ, i64_w, i32_w]
        rfl
       refine pure_ (i := 5) (N := some 46) (v := ?_) (a' := ?_) #[true, true, true, true, true, true, false, false, false] rfl rfl (any_of HT_.out (by kernel_rfl)) (fun _ _ _ h => h) (Or.inl ⟨by rfl, ?_⟩) ?_ ?_
       rotate_left
       ·intro w'
        go_simp
        with_reducible rfl
       rotate_left
       ·simp only [Act.put, List.setIfInBounds_toArray, List.set_cons_zero, List.set_cons_succ, i64_w, i32_w]
        rfl
       refine one_ (i := 6) (N := some 47) #[true, true, true, true, true, true, true, false, false] rfl rfl (one_of HT_.out (by kernel_rfl)) (by decide) (fun K hK => ?_)
       refine goes_ Try.func19 (by kernel_rfl) rfl #[] (by rfl) rfl rfl (by (try simp only [List.map_toArray, List.map_cons, List.map_nil]); first | done | rfl | (simp only [List.length_drop, List.length_take]; rfl)) ?_
       with_reducible refine (tithelaw10_works.calls kj6  t414 _ A16.out).mono ?_
       rintro e w18 ⟨rfl, hb⟩
       refine ⟨_, rfl, ?_⟩
       have n0_ := Aside0.mk (Kd.R_below (by (with_reducible repeat (first | apply Kd.R_alloc | apply Kd.R_drewN | apply Kd.R_drew)); exact HO_7.out) hb)
       have n1_ := Aside0.mk (below_step (by repeat (first | (with_reducible first | exact HB.out | apply below_alloc | apply pw_below_drewN | apply below_drew1) | exact HB.out)) hb)
       clear HO_7
       clear HB
       have HO_7 := n0_
       have HB := n1_
       clear n0_ n1_
       (try clear hb)
       (try clear hb2)
       (try clear hk)
       (try clear hi)
       refine hK.out _ _ trivial (fun hHeld => ?_)
       clear hK K
       refine norm_ (a' := ?_) ?_ ?_
       rotate_left
       ·show Act.put _ (some 47) _ = _
        simp only [Act.put, List.setIfInBounds_toArray, List.set_cons_zero, List.set_cons_succ, i64_w, i32_w]
        rfl
       refine pure_ (i := 7) (N := some 48) (v := ?_) (a' := ?_) #[true, true, true, true, true, true, true, true, false] rfl rfl (any_of HT_.out (by kernel_rfl)) (fun _ _ _ h => h) (Or.inl ⟨by rfl, ?_⟩) ?_ ?_
       rotate_left
       ·intro w'
        go_simp
        with_reducible rfl
       rotate_left
       ·simp only [Act.put, List.setIfInBounds_toArray, List.set_cons_zero, List.set_cons_succ, i64_w, i32_w]
        rfl
       refine pure_ (i := 8) (N := some 4) (v := ?_) (a' := ?_) #[true, true, true, true, true, true, true, true, true] rfl rfl (any_of HT_.out (by kernel_rfl)) (fun _ _ _ h => h) (Or.inl ⟨by rfl, ?_⟩) ?_ ?_
       rotate_left
       ·intro w'
        go_simp
        with_reducible rfl
       rotate_left
       ·simp only [Act.put, List.setIfInBounds_toArray, List.set_cons_zero, List.set_cons_succ, i64_w, i32_w]
        rfl
       refine done_ (done_of HT_.out (by kernel_rfl)) ?_
       try go_wp2
       go_ret
       exact ⟨by first | rfl | (simp [errW_none, errW_some] <;> rfl) | (simp [*, errW_none, errW_some] <;> rfl), by repeat (first | (with_reducible first | exact HB.out | apply below_alloc | apply pw_below_drewN | apply below_drew1) | exact HB.out)⟩
      · exact absurd (by decide) c15
     ·have H1 : (if (true == false) = true then ((tithelaw10_works.f kj6).bind fun t415 => (some t415)) else (some false)) = some r := by rw [if_neg (show ¬ (some q413).isNone = true by simp)] at H; exact H
      clear H
      have H := H1
      clear H1
      try simp only [errW_none, errW_some]
      by_cases c20 : (true == false) = true
      · exact absurd c20 (by decide)
      ·rw [if_neg c20] at H
       have c20b0 : (true == false) = false := by first | (simp; done) | (simp at c20; done) | simpa using c20
       (try (have c20b1 : decide (true = false) = false := by first | (simp; done) | (simp at c20; done) | simpa using c20))
       (try (have c20b2 : (true == false) = false := by first | (simp; done) | (simp at c20; done) | simpa using c20))
       (try (have c20b3 : ¬ (true = false) := by first | (simp; done) | (simp at c20; done) | simpa using c20))
       clear c20
       obtain rfl := Option.some.inj H
       try go_wp2
       have n0_ := Aside0.mk (Kd.R_drew HO_7.out)
       have n1_ := Aside0.mk (below_drew1 HB.out)
       clear HO_7
       clear HB
       have HO_7 := n0_
       have HB := n1_
       clear n0_ n1_
       refine start_ (n := 9) (S := fun w' => True) (ds := []) #[false, false, false, false, false, false, false, false, false] (by kernel_rfl) rfl rfl trivial (fun hHeld => ?_); refine with_tabW tithelaw10_EdfLiuLayland.tab5 tithelaw10_EdfLiuLayland.bits5 (fun HT_ HW_ => ?_)
       generalize wc.drew = w24 at HO_7 HB hHeld ⊢
       refine pure_ (i := 0) (N := some 41) (v := ?_) (a' := ?_) #[true, false, false, false, false, false, false, false, false] rfl rfl (any_of HT_.out (by kernel_rfl)) (fun _ _ _ h => h) (Or.inl ⟨by rfl, ?_⟩) ?_ ?_
       rotate_left
       ·intro w'
        go_simp
        with_reducible rfl
       rotate_left
       ·simp only [Act.put, List.setIfInBounds_toArray, List.set_cons_zero, List.set_cons_succ, i64_w, i32_w]
        rfl
       refine pure_ (i := 1) (N := some 42) (v := ?_) (a' := ?_) #[true, true, false, false, false, false, false, false, false] rfl rfl (any_of HT_.out (by kernel_rfl)) (fun _ _ _ h => h) (Or.inl ⟨by rfl, ?_⟩) ?_ ?_
       rotate_left
       ·intro w'
        go_simp
        with_reducible rfl
       rotate_left
       ·simp only [Act.put, List.setIfInBounds_toArray, List.set_cons_zero, List.set_cons_succ, i64_w, i32_w]
        rfl
       refine pure_ (i := 2) (N := some 43) (v := ?_) (a' := ?_) #[true, true, true, false, false, false, false, false, false] rfl rfl (any_of HT_.out (by kernel_rfl)) (fun _ _ _ h => h) (Or.inl ⟨by rfl, ?_⟩) ?_ ?_
       rotate_left
       ·intro w'
        go_simp
        with_reducible rfl
       rotate_left
       ·simp only [Act.put, List.setIfInBounds_toArray, List.set_cons_zero, List.set_cons_succ, i64_w, i32_w]
        rfl
       refine pure_ (i := 3) (N := some 44) (v := ?_) (a' := ?_) #[true, true, true, true, false, false, false, false, false] rfl rfl (any_of HT_.out (by kernel_rfl)) (fun _ _ _ h => h) (Or.inl ⟨by rfl, ?_⟩) ?_ ?_
       rotate_left
       ·intro w'
        go_simp
        with_reducible rfl
       rotate_left
       ·simp only [Act.put, List.setIfInBounds_toArray, List.set_cons_zero, List.set_cons_succ, i64_w, i32_w]
        rfl
       refine pure_ (i := 4) (N := some 45) (v := ?_) (a' := ?_) #[true, true, true, true, true, false, false, false, false] rfl rfl (any_of HT_.out (by kernel_rfl)) (fun _ _ _ h => h) (Or.inl ⟨by rfl, ?_⟩) ?_ ?_
       rotate_left
       ·intro w'
        go_simp
        with_reducible rfl
       rotate_left
       ·simp only [Act.put, List.setIfInBounds_toArray, List.set_cons_zero, List.set_cons_succ, i64_w, i32_w]
        rfl
       refine pure_ (i := 5) (N := some 46) (v := ?_) (a' := ?_) #[true, true, true, true, true, true, false, false, false] rfl rfl (any_of HT_.out (by kernel_rfl)) (fun _ _ _ h => h) (Or.inl ⟨by rfl, ?_⟩) ?_ ?_
       rotate_left
       ·intro w'
        go_simp
        with_reducible rfl
       rotate_left
       ·simp only [Act.put, List.setIfInBounds_toArray, List.set_cons_zero, List.set_cons_succ, i64_w, i32_w]
        rfl
       refine pure_ (i := 6) (N := some 47) (v := undef) (a' := ?_) #[true, true, true, true, true, true, true, false, false] rfl rfl (any_of HT_.out (by kernel_rfl)) (fun _ _ _ h => h) (Or.inr ⟨by rfl, rfl⟩) ?_ ?_
       rotate_left
       ·simp only [Act.put, List.setIfInBounds_toArray, List.set_cons_zero, List.set_cons_succ, i64_w, i32_w]
        rfl
       refine pure_ (i := 7) (N := some 48) (v := ?_) (a' := ?_) #[true, true, true, true, true, true, true, true, false] rfl rfl (any_of HT_.out (by kernel_rfl)) (fun _ _ _ h => h) (Or.inl ⟨by rfl, ?_⟩) ?_ ?_
       rotate_left
       ·intro w'
        go_simp
        with_reducible rfl
       rotate_left
       ·simp only [Act.put, List.setIfInBounds_toArray, List.set_cons_zero, List.set_cons_succ, i64_w, i32_w]
        rfl
       refine pure_ (i := 8) (N := some 4) (v := ?_) (a' := ?_) #[true, true, true, true, true, true, true, true, true] rfl rfl (any_of HT_.out (by kernel_rfl)) (fun _ _ _ h => h) (Or.inl ⟨by rfl, ?_⟩) ?_ ?_
       rotate_left
       ·intro w'
        go_simp
        with_reducible rfl
       rotate_left
       ·simp only [Act.put, List.setIfInBounds_toArray, List.set_cons_zero, List.set_cons_succ, i64_w, i32_w]
        rfl
       refine done_ (done_of HT_.out (by kernel_rfl)) ?_
       try go_wp2
       go_ret
       exact ⟨by first | rfl | (simp [errW_none, errW_some] <;> rfl) | (simp [*, errW_none, errW_some] <;> rfl), by repeat (first | (with_reducible first | exact HB.out | apply below_alloc | apply pw_below_drewN | apply below_drew1) | exact HB.out)⟩
    ·have H1 : (if t407.isNone = true then (if (false == true) = true then ((tithelaw10_works.f kj6).bind fun t417 => (some t417)) else (some false)) else (if (false == false) = true then ((tithelaw10_works.f kj6).bind fun t418 => (some t418)) else (some false))) = some r := by rw [if_neg (show ¬ (some q412).isNone = true by simp)] at H; exact H
     clear H
     have H := H1
     clear H1
     try simp only [errW_none, errW_some]
     rcases t407 with _ | q416
     ·have H1 : (if (false == true) = true then ((tithelaw10_works.f kj6).bind fun t417 => (some t417)) else (some false)) = some r := by rw [if_pos (show (none : Option Int).isNone = true by rfl)] at H; exact H
      clear H
      have H := H1
      clear H1
      try simp only [errW_none, errW_some]
      by_cases c25 : (false == true) = true
      · exact absurd c25 (by decide)
      ·rw [if_neg c25] at H
       have c25b0 : (false == true) = false := by first | (simp; done) | (simp at c25; done) | simpa using c25
       (try (have c25b1 : decide (false = true) = false := by first | (simp; done) | (simp at c25; done) | simpa using c25))
       (try (have c25b2 : (false == true) = false := by first | (simp; done) | (simp at c25; done) | simpa using c25))
       (try (have c25b3 : ¬ (false = true) := by first | (simp; done) | (simp at c25; done) | simpa using c25))
       clear c25
       obtain rfl := Option.some.inj H
       try go_wp2
       have n0_ := Aside0.mk (Kd.R_drew HO_7.out)
       have n1_ := Aside0.mk (below_drew1 HB.out)
       clear HO_7
       clear HB
       have HO_7 := n0_
       have HB := n1_
       clear n0_ n1_
       refine start_ (n := 9) (S := fun w' => True) (ds := []) #[false, false, false, false, false, false, false, false, false] (by kernel_rfl) rfl rfl trivial (fun hHeld => ?_); refine with_tabW tithelaw10_EdfLiuLayland.tab5 tithelaw10_EdfLiuLayland.bits5 (fun HT_ HW_ => ?_)
       generalize wc.drew = w29 at HO_7 HB hHeld ⊢
       refine pure_ (i := 0) (N := some 41) (v := ?_) (a' := ?_) #[true, false, false, false, false, false, false, false, false] rfl rfl (any_of HT_.out (by kernel_rfl)) (fun _ _ _ h => h) (Or.inl ⟨by rfl, ?_⟩) ?_ ?_
       rotate_left
       ·intro w'
        go_simp
        with_reducible rfl
       rotate_left
       ·simp only [Act.put, List.setIfInBounds_toArray, List.set_cons_zero, List.set_cons_succ, i64_w, i32_w]
        rfl
       refine pure_ (i := 1) (N := some 42) (v := ?_) (a' := ?_) #[true, true, false, false, false, false, false, false, false] rfl rfl (any_of HT_.out (by kernel_rfl)) (fun _ _ _ h => h) (Or.inl ⟨by rfl, ?_⟩) ?_ ?_
       rotate_left
       ·intro w'
        go_simp
        with_reducible rfl
       rotate_left
       ·simp only [Act.put, List.setIfInBounds_toArray, List.set_cons_zero, List.set_cons_succ, i64_w, i32_w]
        rfl
       refine pure_ (i := 2) (N := some 43) (v := ?_) (a' := ?_) #[true, true, true, false, false, false, false, false, false] rfl rfl (any_of HT_.out (by kernel_rfl)) (fun _ _ _ h => h) (Or.inl ⟨by rfl, ?_⟩) ?_ ?_
       rotate_left
       ·intro w'
        go_simp
        with_reducible rfl
       rotate_left
       ·simp only [Act.put, List.setIfInBounds_toArray, List.set_cons_zero, List.set_cons_succ, i64_w, i32_w]
        rfl
       refine pure_ (i := 3) (N := some 44) (v := ?_) (a' := ?_) #[true, true, true, true, false, false, false, false, false] rfl rfl (any_of HT_.out (by kernel_rfl)) (fun _ _ _ h => h) (Or.inl ⟨by rfl, ?_⟩) ?_ ?_
       rotate_left
       ·intro w'
        go_simp
        with_reducible rfl
       rotate_left
       ·simp only [Act.put, List.setIfInBounds_toArray, List.set_cons_zero, List.set_cons_succ, i64_w, i32_w]
        rfl
       refine pure_ (i := 4) (N := some 45) (v := ?_) (a' := ?_) #[true, true, true, true, true, false, false, false, false] rfl rfl (any_of HT_.out (by kernel_rfl)) (fun _ _ _ h => h) (Or.inl ⟨by rfl, ?_⟩) ?_ ?_
       rotate_left
       ·intro w'
        go_simp
        with_reducible rfl
       rotate_left
       ·simp only [Act.put, List.setIfInBounds_toArray, List.set_cons_zero, List.set_cons_succ, i64_w, i32_w]
        rfl
       refine pure_ (i := 5) (N := some 46) (v := ?_) (a' := ?_) #[true, true, true, true, true, true, false, false, false] rfl rfl (any_of HT_.out (by kernel_rfl)) (fun _ _ _ h => h) (Or.inl ⟨by rfl, ?_⟩) ?_ ?_
       rotate_left
       ·intro w'
        go_simp
        with_reducible rfl
       rotate_left
       ·simp only [Act.put, List.setIfInBounds_toArray, List.set_cons_zero, List.set_cons_succ, i64_w, i32_w]
        rfl
       refine pure_ (i := 6) (N := some 47) (v := undef) (a' := ?_) #[true, true, true, true, true, true, true, false, false] rfl rfl (any_of HT_.out (by kernel_rfl)) (fun _ _ _ h => h) (Or.inr ⟨by rfl, rfl⟩) ?_ ?_
       rotate_left
       ·simp only [Act.put, List.setIfInBounds_toArray, List.set_cons_zero, List.set_cons_succ, i64_w, i32_w]
        rfl
       refine pure_ (i := 7) (N := some 48) (v := ?_) (a' := ?_) #[true, true, true, true, true, true, true, true, false] rfl rfl (any_of HT_.out (by kernel_rfl)) (fun _ _ _ h => h) (Or.inl ⟨by rfl, ?_⟩) ?_ ?_
       rotate_left
       ·intro w'
        go_simp
        with_reducible rfl
       rotate_left
       ·simp only [Act.put, List.setIfInBounds_toArray, List.set_cons_zero, List.set_cons_succ, i64_w, i32_w]
        rfl
       refine pure_ (i := 8) (N := some 4) (v := ?_) (a' := ?_) #[true, true, true, true, true, true, true, true, true] rfl rfl (any_of HT_.out (by kernel_rfl)) (fun _ _ _ h => h) (Or.inl ⟨by rfl, ?_⟩) ?_ ?_
       rotate_left
       ·intro w'
        go_simp
        with_reducible rfl
       rotate_left
       ·simp only [Act.put, List.setIfInBounds_toArray, List.set_cons_zero, List.set_cons_succ, i64_w, i32_w]
        rfl
       refine done_ (done_of HT_.out (by kernel_rfl)) ?_
       try go_wp2
       go_ret
       exact ⟨by first | rfl | (simp [errW_none, errW_some] <;> rfl) | (simp [*, errW_none, errW_some] <;> rfl), by repeat (first | (with_reducible first | exact HB.out | apply below_alloc | apply pw_below_drewN | apply below_drew1) | exact HB.out)⟩
     ·have H1 : (if (false == false) = true then ((tithelaw10_works.f kj6).bind fun t418 => (some t418)) else (some false)) = some r := by rw [if_neg (show ¬ (some q416).isNone = true by simp)] at H; exact H
      clear H
      have H := H1
      clear H1
      try simp only [errW_none, errW_some]
      by_cases c30 : (false == false) = true
      ·rw [if_pos c30] at H
       have c30b0 : (false == false) = true := c30
       (try (have c30b1 : decide (false = false) = true := by first | (simp; done) | (simp at c30; done) | simpa using c30))
       (try (have c30b2 : (false == false) = true := by first | (simp; done) | (simp at c30; done) | simpa using c30))
       clear c30
       replace H := Option.bind_eq_some_iff.mp H
       obtain ⟨t418, A310, H⟩ := H
       replace H : (some t418) = some r := H
       have A31 := Aside0.mk A310
       clear A310
       obtain rfl := Option.some.inj H
       try go_wp2
       have n0_ := Aside0.mk (Kd.R_drew HO_7.out)
       have n1_ := Aside0.mk (below_drew1 HB.out)
       clear HO_7
       clear HB
       have HO_7 := n0_
       have HB := n1_
       clear n0_ n1_
       refine start_ (n := 9) (S := fun w' => True) (ds := []) #[false, false, false, false, false, false, false, false, false] (by kernel_rfl) rfl rfl trivial (fun hHeld => ?_); refine with_tabW tithelaw10_EdfLiuLayland.tab5 tithelaw10_EdfLiuLayland.bits5 (fun HT_ HW_ => ?_)
       generalize wc.drew = w32 at HO_7 HB hHeld ⊢
       refine pure_ (i := 0) (N := some 41) (v := ?_) (a' := ?_) #[true, false, false, false, false, false, false, false, false] rfl rfl (any_of HT_.out (by kernel_rfl)) (fun _ _ _ h => h) (Or.inl ⟨by rfl, ?_⟩) ?_ ?_
       rotate_left
       ·intro w'
        go_simp
        with_reducible rfl
       rotate_left
       ·simp only [Act.put, List.setIfInBounds_toArray, List.set_cons_zero, List.set_cons_succ, i64_w, i32_w]
        rfl
       refine pure_ (i := 1) (N := some 42) (v := ?_) (a' := ?_) #[true, true, false, false, false, false, false, false, false] rfl rfl (any_of HT_.out (by kernel_rfl)) (fun _ _ _ h => h) (Or.inl ⟨by rfl, ?_⟩) ?_ ?_
       rotate_left
       ·intro w'
        go_simp
        with_reducible rfl
       rotate_left
       ·simp only [Act.put, List.setIfInBounds_toArray, List.set_cons_zero, List.set_cons_succ, i64_w, i32_w]
        rfl
       refine pure_ (i := 2) (N := some 43) (v := ?_) (a' := ?_) #[true, true, true, false, false, false, false, false, false] rfl rfl (any_of HT_.out (by kernel_rfl)) (fun _ _ _ h => h) (Or.inl ⟨by rfl, ?_⟩) ?_ ?_
       rotate_left
       ·intro w'
        go_simp
        with_reducible rfl
       rotate_left
       ·simp only [Act.put, List.setIfInBounds_toArray, List.set_cons_zero, List.set_cons_succ, i64_w, i32_w]
        rfl
       refine pure_ (i := 3) (N := some 44) (v := ?_) (a' := ?_) #[true, true, true, true, false, false, false, false, false] rfl rfl (any_of HT_.out (by kernel_rfl)) (fun _ _ _ h => h) (Or.inl ⟨by rfl, ?_⟩) ?_ ?_
       rotate_left
       ·intro w'
        go_simp
        with_reducible rfl
       rotate_left
       ·simp only [Act.put, List.setIfInBounds_toArray, List.set_cons_zero, List.set_cons_succ, i64_w, i32_w]
        rfl
       refine pure_ (i := 4) (N := some 45) (v := ?_) (a' := ?_) #[true, true, true, true, true, false, false, false, false] rfl rfl (any_of HT_.out (by kernel_rfl)) (fun _ _ _ h => h) (Or.inl ⟨by rfl, ?_⟩) ?_ ?_
       rotate_left
       ·intro w'
        go_simp
        with_reducible rfl
       rotate_left
       ·simp only [Act.put, List.setIfInBounds_toArray, List.set_cons_zero, List.set_cons_succ, i64_w, i32_w]
        rfl
       refine pure_ (i := 5) (N := some 46) (v := ?_) (a' := ?_) #[true, true, true, true, true, true, false, false, false] rfl rfl (any_of HT_.out (by kernel_rfl)) (fun _ _ _ h => h) (Or.inl ⟨by rfl, ?_⟩) ?_ ?_
       rotate_left
       ·intro w'
        go_simp
        with_reducible rfl
       rotate_left
       ·simp only [Act.put, List.setIfInBounds_toArray, List.set_cons_zero, List.set_cons_succ, i64_w, i32_w]
        rfl
       refine one_ (i := 6) (N := some 47) #[true, true, true, true, true, true, true, false, false] rfl rfl (one_of HT_.out (by kernel_rfl)) (by decide) (fun K hK => ?_)
       refine goes_ Try.func19 (by kernel_rfl) rfl #[] (by rfl) rfl rfl (by (try simp only [List.map_toArray, List.map_cons, List.map_nil]); first | done | rfl | (simp only [List.length_drop, List.length_take]; rfl)) ?_
       with_reducible refine (tithelaw10_works.calls kj6  t418 _ A31.out).mono ?_
       rintro e w33 ⟨rfl, hb⟩
       refine ⟨_, rfl, ?_⟩
       have n0_ := Aside0.mk (Kd.R_below (by (with_reducible repeat (first | apply Kd.R_alloc | apply Kd.R_drewN | apply Kd.R_drew)); exact HO_7.out) hb)
       have n1_ := Aside0.mk (below_step (by repeat (first | (with_reducible first | exact HB.out | apply below_alloc | apply pw_below_drewN | apply below_drew1) | exact HB.out)) hb)
       clear HO_7
       clear HB
       have HO_7 := n0_
       have HB := n1_
       clear n0_ n1_
       (try clear hb)
       (try clear hb2)
       (try clear hk)
       (try clear hi)
       refine hK.out _ _ trivial (fun hHeld => ?_)
       clear hK K
       refine norm_ (a' := ?_) ?_ ?_
       rotate_left
       ·show Act.put _ (some 47) _ = _
        simp only [Act.put, List.setIfInBounds_toArray, List.set_cons_zero, List.set_cons_succ, i64_w, i32_w]
        rfl
       refine pure_ (i := 7) (N := some 48) (v := ?_) (a' := ?_) #[true, true, true, true, true, true, true, true, false] rfl rfl (any_of HT_.out (by kernel_rfl)) (fun _ _ _ h => h) (Or.inl ⟨by rfl, ?_⟩) ?_ ?_
       rotate_left
       ·intro w'
        go_simp
        with_reducible rfl
       rotate_left
       ·simp only [Act.put, List.setIfInBounds_toArray, List.set_cons_zero, List.set_cons_succ, i64_w, i32_w]
        rfl
       refine pure_ (i := 8) (N := some 4) (v := ?_) (a' := ?_) #[true, true, true, true, true, true, true, true, true] rfl rfl (any_of HT_.out (by kernel_rfl)) (fun _ _ _ h => h) (Or.inl ⟨by rfl, ?_⟩) ?_ ?_
       rotate_left
       ·intro w'
        go_simp
        with_reducible rfl
       rotate_left
       ·simp only [Act.put, List.setIfInBounds_toArray, List.set_cons_zero, List.set_cons_succ, i64_w, i32_w]
        rfl
       refine done_ (done_of HT_.out (by kernel_rfl)) ?_
       try go_wp2
       go_ret
       exact ⟨by first | rfl | (simp [errW_none, errW_some] <;> rfl) | (simp [*, errW_none, errW_some] <;> rfl), by repeat (first | (with_reducible first | exact HB.out | apply below_alloc | apply pw_below_drewN | apply below_drew1) | exact HB.out)⟩
      · exact absurd (by decide) c30
   ·replace c14 := Bool.eq_false_iff.mpr c14
    subst c14
    have H1 : (if t401 > 1048576 then ((tithelaw10_works.f kj6).bind fun t419 => (some t419)) else ((tithelaw10_items.f kj6 l0).bind fun t420 => ((edf_Missed.f kj6 t420 t406).bind fun bt423 => (if bt423.2.isNone = true then (if (bt423.1.length : Int) = (l0.length : Int) then ((tithelaw10_some.f kj6 bt423.1).bind fun t428 => (if t428 = true then (tithelaw10_EdfLiuLayland.j1 kj6 l0 (Int.tmod (wrap64 ((Int.tmod a1 500) + 500)) 500) t406 true) else (tithelaw10_EdfLiuLayland.j1 kj6 l0 (Int.tmod (wrap64 ((Int.tmod a1 500) + 500)) 500) t406 ((t406.length : Int) != (Int.tmod (wrap64 ((Int.tmod a1 500) + 500)) 500))))) else (tithelaw10_EdfLiuLayland.j1 kj6 l0 (Int.tmod (wrap64 ((Int.tmod a1 500) + 500)) 500) t406 true)) else (tithelaw10_EdfLiuLayland.j1 kj6 l0 (Int.tmod (wrap64 ((Int.tmod a1 500) + 500)) 500) t406 true))))) = some r := by rw [if_neg (show ¬ (false = true) by decide)] at H; exact H
    clear H
    have H := H1
    clear H1
    by_cases c35 : t401 > 1048576
    ·rw [if_pos c35] at H
     have c35b0 : decide (1048576 < t401) = true := decide_eq_true c35
     clear c35
     replace H := Option.bind_eq_some_iff.mp H
     obtain ⟨t419, A360, H⟩ := H
     replace H : (some t419) = some r := H
     have A36 := Aside0.mk A360
     clear A360
     obtain rfl := Option.some.inj H
     go_wp2_with (first | ((with_reducible refine gate_callee (f := 19) rfl ?_); refine goesL_ (some 51) rfl rfl Try.func19 (by kernel_rfl) rfl #[] rfl (by (try simp only [List.map_toArray, List.map_cons, List.map_nil]); first | done | rfl | (simp only [List.length_drop, List.length_take]; rfl)) ?_; (with_reducible refine (tithelaw10_works.calls kj6  t419 _ A36.out).mono ?_); rintro e w37 ⟨rfl, hb⟩; refine ⟨_, rfl, ?_⟩; have n0_ := Aside0.mk (Kd.R_below (by (with_reducible repeat (first | apply Kd.R_alloc | apply Kd.R_drewN | apply Kd.R_drew)); exact HO_7.out) hb); have n1_ := Aside0.mk (below_step (by repeat (first | (with_reducible first | exact HB.out | apply below_alloc | apply pw_below_drewN | apply below_drew1) | exact HB.out)) hb); clear HO_7; clear HB; have HO_7 := n0_; have HB := n1_; clear n0_ n1_; (try clear hb); (try clear hb2); (try clear hk); (try clear hi)))
     go_ret
     exact ⟨by first | rfl | (simp [errW_none, errW_some] <;> rfl) | (simp [*, errW_none, errW_some] <;> rfl), by repeat (first | (with_reducible first | exact HB.out | apply below_alloc | apply pw_below_drewN | apply below_drew1) | exact HB.out)⟩
    ·rw [if_neg c35] at H
     have c35b0 : decide (1048576 < t401) = false := decide_eq_false c35
     clear c35
     replace H := Option.bind_eq_some_iff.mp H
     obtain ⟨t420, A380, H⟩ := H
     replace H : ((edf_Missed.f kj6 t420 t406).bind fun bt423 => (if bt423.2.isNone = true then (if (bt423.1.length : Int) = (l0.length : Int) then ((tithelaw10_some.f kj6 bt423.1).bind fun t428 => (if t428 = true then (tithelaw10_EdfLiuLayland.j1 kj6 l0 (Int.tmod (wrap64 ((Int.tmod a1 500) + 500)) 500) t406 true) else (tithelaw10_EdfLiuLayland.j1 kj6 l0 (Int.tmod (wrap64 ((Int.tmod a1 500) + 500)) 500) t406 ((t406.length : Int) != (Int.tmod (wrap64 ((Int.tmod a1 500) + 500)) 500))))) else (tithelaw10_EdfLiuLayland.j1 kj6 l0 (Int.tmod (wrap64 ((Int.tmod a1 500) + 500)) 500) t406 true)) else (tithelaw10_EdfLiuLayland.j1 kj6 l0 (Int.tmod (wrap64 ((Int.tmod a1 500) + 500)) 500) t406 true))) = some r := H
     have A38 := Aside0.mk A380
     clear A380
     replace H := Option.bind_eq_some_iff.mp H
     obtain ⟨⟨t423, t424⟩, A390, H⟩ := H
     replace H : (if t424.isNone = true then (if (t423.length : Int) = (l0.length : Int) then ((tithelaw10_some.f kj6 t423).bind fun t428 => (if t428 = true then (tithelaw10_EdfLiuLayland.j1 kj6 l0 (Int.tmod (wrap64 ((Int.tmod a1 500) + 500)) 500) t406 true) else (tithelaw10_EdfLiuLayland.j1 kj6 l0 (Int.tmod (wrap64 ((Int.tmod a1 500) + 500)) 500) t406 ((t406.length : Int) != (Int.tmod (wrap64 ((Int.tmod a1 500) + 500)) 500))))) else (tithelaw10_EdfLiuLayland.j1 kj6 l0 (Int.tmod (wrap64 ((Int.tmod a1 500) + 500)) 500) t406 true)) else (tithelaw10_EdfLiuLayland.j1 kj6 l0 (Int.tmod (wrap64 ((Int.tmod a1 500) + 500)) 500) t406 true)) = some r := H
     have A39 := Aside0.mk A390
     clear A390
     have HC40 := Aside0.mk H
     clear H
     go_upto_region 9 with (first | ((with_reducible refine gate_callee (f := 13) rfl ?_); refine goesL_ (some 54) rfl rfl Try.func13 (by kernel_rfl) rfl #[.slice A0 l0.length c0] rfl (by (try simp only [List.map_toArray, List.map_cons, List.map_nil]); first | done | rfl | (simp only [List.length_drop, List.length_take]; rfl)) ?_; (with_reducible refine (tithelaw10_items.calls kj6 _ _ l0 t420 _ ?side1 ?side2 A38.out).mono ?_); (case side1 => repeat (first | exact (Kd.C_below HR0.out HB.out) | (with_reducible refine Kd.C_alloc ?_ _) | (with_reducible refine Kd.C_drewN ?_ _) | (with_reducible refine Kd.C_drew ?_))); (case side2 => exact HC0.out); rintro e w41 ⟨v421, rfl, ho0, hb⟩; refine ⟨_, rfl, ?_⟩; have n0_ := Aside0.mk (Kd.R_below (by (with_reducible repeat (first | apply Kd.R_alloc | apply Kd.R_drewN | apply Kd.R_drew)); exact HO_7.out) hb); have n1_ := Aside0.mk (Kd.R_lower ho0 (below_size (by repeat (first | (with_reducible first | exact HB.out | apply below_alloc | apply pw_below_drewN | apply below_drew1) | exact HB.out)))); have n2_ := Aside0.mk (below_step (by repeat (first | (with_reducible first | exact HB.out | apply below_alloc | apply pw_below_drewN | apply below_drew1) | exact HB.out)) hb); clear HO_7; clear HB; have HO_7 := n0_; have HO422 := n1_; have HB := n2_; clear n0_ n1_ n2_; (try clear hb); (try clear hb2); (try clear hk); (try clear hi); (try clear ho0); obtain ⟨Ao42, co42, eo42⟩ := Kd.R_slice HO422.out; subst eo42; obtain ⟨Ao43, co43, eo43⟩ := Kd.R_slice HO_7.out; subst eo43) | ((with_reducible refine gate_callee (f := 20) rfl ?_); refine goesL_ (some 56) rfl rfl Try.func20 (by kernel_rfl) rfl #[.slice Ao42 t420.length co42, .slice Ao43 t406.length co43] rfl (by (try simp only [List.map_toArray, List.map_cons, List.map_nil]); first | done | rfl | (simp only [List.length_drop, List.length_take]; rfl)) ?_; (with_reducible refine (edf_Missed.calls kj6 _ _ t420 _ _ t406 t423 t424 _ ?side1 ?side2 ?side3 ?side4 A39.out).mono ?_); (case side1 => repeat (first | exact (Kd.R_reads' HO422.out).2.2 | (with_reducible refine Kd.C_alloc ?_ _) | (with_reducible refine Kd.C_drewN ?_ _) | (with_reducible refine Kd.C_drew ?_))); (case side2 => exact (Kd.R_reads' HO422.out).2.1); (case side3 => repeat (first | exact (Kd.R_reads' HO_7.out).2.2 | (with_reducible refine Kd.C_alloc ?_ _) | (with_reducible refine Kd.C_drewN ?_ _) | (with_reducible refine Kd.C_drew ?_))); (case side4 => exact (Kd.R_reads' HO_7.out).2.1); rintro e w44 ⟨v425, rfl, ho0, hb⟩; refine ⟨_, rfl, ?_⟩; have n0_ := Aside0.mk (Kd.R_elder' (by (with_reducible repeat (first | apply Kd.R_alloc | apply Kd.R_drewN | apply Kd.R_drew)); exact HO_7.out) (Kd.R_base ho0) hb); have n1_ := Aside0.mk (Kd.R_below (by (with_reducible repeat (first | apply Kd.R_alloc | apply Kd.R_drewN | apply Kd.R_drew)); exact HO422.out) hb); have n2_ := Aside0.mk (Kd.R_lower (Kd.R_new' ho0 (Kd.R_lt (by (with_reducible repeat (first | apply Kd.R_alloc | apply Kd.R_drewN | apply Kd.R_drew)); exact HO_7.out))) (below_size (by repeat (first | (with_reducible first | exact HB.out | apply below_alloc | apply pw_below_drewN | apply below_drew1) | exact HB.out)))); have n3_ := Aside0.mk (below_step (by repeat (first | (with_reducible first | exact HB.out | apply below_alloc | apply pw_below_drewN | apply below_drew1) | exact HB.out)) hb); clear HO_7; clear HO422; clear HB; have HO_7 := n0_; have HO422 := n1_; have HO426 := n2_; have HB := n3_; clear n0_ n1_ n2_ n3_; (try clear hb); (try clear hb2); (try clear hk); (try clear hi); (try clear ho0); (try simp only [errW_none, errW_some])))
     (try simp only [Act.put, List.setIfInBounds_toArray, List.set_cons_zero, List.set_cons_succ])
     go_cut [77] (fun v77 wc => ∃ (kq : Nat) (x77_39 : Bool), v77 = .bool x77_39 ∧ Aside0 (tithelaw10_EdfLiuLayland.j1 kq l0 (Int.tmod (wrap64 ((Int.tmod a1 500) + 500)) 500) t406 x77_39 = some r) ∧ Aside0 (kq ≤ kj6) ∧ Aside0 (Kd.R (Kd.int .i64) 3 wc w.heap.size (fun _ => True) (.slice Ao43 t406.length co43) t406) ∧ Aside0 (Below w.heap.size w wc))
     case first =>
      have H := HC40.out
      clear HC40
      rcases t424 with _ | q427
      ·have H1 : (if (t423.length : Int) = (l0.length : Int) then ((tithelaw10_some.f kj6 t423).bind fun t428 => (if t428 = true then (tithelaw10_EdfLiuLayland.j1 kj6 l0 (Int.tmod (wrap64 ((Int.tmod a1 500) + 500)) 500) t406 true) else (tithelaw10_EdfLiuLayland.j1 kj6 l0 (Int.tmod (wrap64 ((Int.tmod a1 500) + 500)) 500) t406 ((t406.length : Int) != (Int.tmod (wrap64 ((Int.tmod a1 500) + 500)) 500))))) else (tithelaw10_EdfLiuLayland.j1 kj6 l0 (Int.tmod (wrap64 ((Int.tmod a1 500) + 500)) 500) t406 true)) = some r := by rw [if_pos (show (none : Option Int).isNone = true by rfl)] at H; exact H
       clear H
       have H := H1
       clear H1
       try simp only [errW_none, errW_some]
       by_cases c45 : (t423.length : Int) = (l0.length : Int)
       ·rw [if_pos c45] at H
        have c45b0 : ((t423.length : Int) == (l0.length : Int)) = true := beq_iff_eq.mpr c45
        have c45b1 : ((t423.length : Int) != (l0.length : Int)) = false := bne_eq_false_iff_eq.mpr c45
        have c45b2 : (t423.length == l0.length) = true := by first | simpa using c45 | (simp at c45 ⊢; omega)
        clear c45
        (first | rw [c45b0] | (simp only [i64_w, i32_w]; rw [c45b0]) | skip)
        replace H := Option.bind_eq_some_iff.mp H
        obtain ⟨t428, A460, H⟩ := H
        replace H : (if t428 = true then (tithelaw10_EdfLiuLayland.j1 kj6 l0 (Int.tmod (wrap64 ((Int.tmod a1 500) + 500)) 500) t406 true) else (tithelaw10_EdfLiuLayland.j1 kj6 l0 (Int.tmod (wrap64 ((Int.tmod a1 500) + 500)) 500) t406 ((t406.length : Int) != (Int.tmod (wrap64 ((Int.tmod a1 500) + 500)) 500)))) = some r := H
        have A46 := Aside0.mk A460
        clear A460
        by_cases c47 : t428 = true
        ·subst c47
         have H1 : (tithelaw10_EdfLiuLayland.j1 kj6 l0 (Int.tmod (wrap64 ((Int.tmod a1 500) + 500)) 500) t406 true) = some r := by rw [if_pos rfl] at H; exact H
         clear H
         have H := H1
         clear H1
         have H' := Aside0.mk H
         clear H
         obtain ⟨Ao48, co48, eo48⟩ := Kd.R_slice HO426.out
         subst eo48
         go_wp2_with (first | (go_at_call 22; (with_reducible refine (tithelaw10_some.calls kj6 _ _ t423 true _ ?side1 ?side2 A46.out).mono ?_); (case side1 => repeat (first | exact (Kd.R_reads' HO426.out).2.2 | (with_reducible refine Kd.C_alloc ?_ _) | (with_reducible refine Kd.C_drewN ?_ _) | (with_reducible refine Kd.C_drew ?_))); (case side2 => exact (Kd.R_reads' HO426.out).2.1); rintro e w' ⟨rfl, ⟨nd, rfl⟩⟩))
         go_meet
         case rel => exact ⟨_, (true), (by first | rfl | (simp; done) | (simp [*]; done)), H', ⟨by have := HJ6.out; first | omega | exact Nat.le_refl _⟩, ⟨by (with_reducible repeat (first | apply Kd.R_alloc | apply Kd.R_drewN | apply Kd.R_drew)); exact Kd.R_mono HO_7.out (fun _ hk => trivial)⟩, ⟨by repeat (first | (with_reducible first | exact HB.out | apply below_alloc | apply pw_below_drewN | apply below_drew1) | exact HB.out)⟩⟩
        ·replace c47 := Bool.eq_false_iff.mpr c47
         subst c47
         have H1 : (tithelaw10_EdfLiuLayland.j1 kj6 l0 (Int.tmod (wrap64 ((Int.tmod a1 500) + 500)) 500) t406 ((t406.length : Int) != (Int.tmod (wrap64 ((Int.tmod a1 500) + 500)) 500))) = some r := by rw [if_neg (show ¬ (false = true) by decide)] at H; exact H
         clear H
         have H := H1
         clear H1
         have H' := Aside0.mk H
         clear H
         obtain ⟨Ao49, co49, eo49⟩ := Kd.R_slice HO426.out
         subst eo49
         go_wp2_with (first | (go_at_call 22; (with_reducible refine (tithelaw10_some.calls kj6 _ _ t423 false _ ?side1 ?side2 A46.out).mono ?_); (case side1 => repeat (first | exact (Kd.R_reads' HO426.out).2.2 | (with_reducible refine Kd.C_alloc ?_ _) | (with_reducible refine Kd.C_drewN ?_ _) | (with_reducible refine Kd.C_drew ?_))); (case side2 => exact (Kd.R_reads' HO426.out).2.1); rintro e w' ⟨rfl, ⟨nd, rfl⟩⟩))
         go_meet
         case rel => exact ⟨_, (((t406.length : Int) != (Int.tmod (wrap64 ((Int.tmod a1 500) + 500)) 500))), (by first | rfl | (simp; done) | (simp [*]; done)), H', ⟨by have := HJ6.out; first | omega | exact Nat.le_refl _⟩, ⟨by (with_reducible repeat (first | apply Kd.R_alloc | apply Kd.R_drewN | apply Kd.R_drew)); exact Kd.R_mono HO_7.out (fun _ hk => trivial)⟩, ⟨by repeat (first | (with_reducible first | exact HB.out | apply below_alloc | apply pw_below_drewN | apply below_drew1) | exact HB.out)⟩⟩
       ·rw [if_neg c45] at H
        have c45b0 : ((t423.length : Int) == (l0.length : Int)) = false := beq_eq_false_iff_ne.mpr c45
        have c45b1 : ((t423.length : Int) != (l0.length : Int)) = true := bne_iff_ne.mpr c45
        have c45b2 : (t423.length == l0.length) = false := by first | simpa using c45 | (simp at c45 ⊢; omega)
        (first | rw [c45b0] | (simp only [i64_w, i32_w]; rw [c45b0]) | skip)
        have H' := Aside0.mk H
        clear H
        obtain ⟨Ao50, co50, eo50⟩ := Kd.R_slice HO426.out
        subst eo50
        go_wp2
        go_meet
        case rel => exact ⟨_, (true), (by first | rfl | (simp; done) | (simp [*]; done)), H', ⟨by have := HJ6.out; first | omega | exact Nat.le_refl _⟩, ⟨by (with_reducible repeat (first | apply Kd.R_alloc | apply Kd.R_drewN | apply Kd.R_drew)); exact Kd.R_mono HO_7.out (fun _ hk => trivial)⟩, ⟨by repeat (first | (with_reducible first | exact HB.out | apply below_alloc | apply pw_below_drewN | apply below_drew1) | exact HB.out)⟩⟩
      ·have H1 : (tithelaw10_EdfLiuLayland.j1 kj6 l0 (Int.tmod (wrap64 ((Int.tmod a1 500) + 500)) 500) t406 true) = some r := by rw [if_neg (show ¬ (some q427).isNone = true by simp)] at H; exact H
       clear H
       have H := H1
       clear H1
       try simp only [errW_none, errW_some]
       have H' := Aside0.mk H
       clear H
       go_wp2
       go_meet
       case rel => exact ⟨_, (true), (by first | rfl | (simp; done) | (simp [*]; done)), H', ⟨by have := HJ6.out; first | omega | exact Nat.le_refl _⟩, ⟨by (with_reducible repeat (first | apply Kd.R_alloc | apply Kd.R_drewN | apply Kd.R_drew)); exact Kd.R_mono HO_7.out (fun _ hk => trivial)⟩, ⟨by repeat (first | (with_reducible first | exact HB.out | apply below_alloc | apply pw_below_drewN | apply below_drew1) | exact HB.out)⟩⟩
     case rest =>
      clear HC40
      try clear c1
      try clear c2
      try clear p2
      try clear c3
      try clear c4
      try clear q4
      try clear p6
      try clear c13
      try clear c14
      try clear c19
      try clear c20
      try clear c25
      try clear c25b0
      try clear c25b1
      try clear c25b2
      try clear c30
      try clear c30b0
      try clear c30b1
      try clear c30b2
      try clear c35
      try clear c35b0
      try clear q41
      try clear q42
      try clear c45
      try clear c45b0
      try clear c45b1
      try clear c45b2
      try clear c47
      try clear q412
      try clear q416
      try clear q427
      obtain ⟨kq, x77_39, rfl, HA, HJ39, HO_7, HB⟩ := hcut
      cases kq with
      | zero => exact absurd HA.out (by simp [tithelaw10_EdfLiuLayland.j1])
      | succ kj39 =>
       have H := HA.out
       clear HA
       simp only [tithelaw10_EdfLiuLayland.j1] at H
       by_cases c51 : x77_39 = true
       ·subst c51
        have H1 : (some false) = some r := by rw [if_pos rfl] at H; exact H
        clear H
        have H := H1
        clear H1
        obtain rfl := Option.some.inj H
        go_wp2
        go_ret
        exact ⟨by first | rfl | (simp [errW_none, errW_some] <;> rfl) | (simp [*, errW_none, errW_some] <;> rfl), by repeat (first | (with_reducible first | exact HB.out | apply below_alloc | apply pw_below_drewN | apply below_drew1) | exact HB.out)⟩
       ·replace c51 := Bool.eq_false_iff.mpr c51
        subst c51
        have H1 : (tithelaw10_EdfLiuLayland.l0 kj39 l0 (Int.tmod (wrap64 ((Int.tmod a1 500) + 500)) 500) t406 0) = some r := by rw [if_neg (show ¬ (false = true) by decide)] at H; exact H
        clear H
        have H := H1
        clear H1
        have H' := Aside0.mk H
        clear H
        go_wp2
        go_loopg [11] kj39 (fun kq v11 w' => ∃ (x11_3 : Int), v11 = .int .i64 x11_3 ∧ Aside0 (tithelaw10_EdfLiuLayland.l0 kq l0 (Int.tmod (wrap64 ((Int.tmod a1 500) + 500)) 500) t406 x11_3 = some r) ∧ Aside0 (kq ≤ kj39) ∧ Aside0 (Kd.R (Kd.int .i64) 3 w' w.heap.size (fun _ => True) (.slice Ao43 t406.length co43) t406) ∧ Aside0 (Below w.heap.size w w'))
        case atStart => exact ⟨(0), (by first | rfl | (simp; done) | (simp [*]; done)), H', ⟨Nat.le_refl _⟩, ⟨by (with_reducible repeat (first | apply Kd.R_alloc | apply Kd.R_drewN | apply Kd.R_drew)); exact HO_7.out⟩, ⟨by repeat (first | (with_reducible first | exact HB.out | apply below_alloc | apply pw_below_drewN | apply below_drew1) | exact HB.out)⟩⟩
        case round =>
         clear H'
         try clear c1
         try clear c2
         try clear p2
         try clear c3
         try clear c4
         try clear q4
         try clear c5
         try clear p6
         try clear c13
         try clear c14
         try clear c19
         try clear c20
         try clear c25
         try clear c25b0
         try clear c25b1
         try clear c25b2
         try clear c30
         try clear c30b0
         try clear c30b1
         try clear c30b2
         try clear c35
         try clear c35b0
         try clear q41
         try clear q42
         try clear c45
         try clear c45b0
         try clear c45b1
         try clear c45b2
         try clear c47
         try clear c51
         try clear p2
         try clear p6
         try clear q4
         try clear q41
         try clear q412
         try clear q416
         try clear q42
         try clear q427
         obtain ⟨x11_3, rfl, HA, HK3, HO_7, HB⟩ := hrel
         cases gk with
         | zero => exact absurd HA.out (by simp [tithelaw10_EdfLiuLayland.l0])
         | succ k3 =>
          have H := HA.out
          clear HA
          simp only [tithelaw10_EdfLiuLayland.l0] at H
          by_cases c52 : x11_3 < (l0.length : Int)
          ·rw [if_pos c52] at H
           have c52b0 : decide (x11_3 < (l0.length : Int)) = true := decide_eq_true c52
           clear c52
           by_cases c53 : 0 ≤ x11_3
           ·rw [if_pos c53] at H
            have c53b0 : decide (0 ≤ x11_3) = true := decide_eq_true c53
            clear c53
            have H' := Aside0.mk H
            clear H
            have p430 : 0 ≤ (x11_3 : Int) := of_decide_eq_true (by first | (with_reducible assumption) | assumption)
            have q430 : x11_3 < (l0.length : Int) := of_decide_eq_true (by first | (with_reducible assumption) | assumption)
            obtain ⟨ad430, e430, hx430_0, hx430_1, hx430_2⟩ := at_T43 HR0.out x11_3 p430 q430
            cases e430
            replace hx430_0 := (HB.out.cell (World.block_lt_of_cell? w _ hx430_0)).trans hx430_0
            replace hx430_1 := (HB.out.cell (World.block_lt_of_cell? w _ hx430_1)).trans hx430_1
            replace hx430_2 := (HB.out.cell (World.block_lt_of_cell? w _ hx430_2)).trans hx430_2
            replace p430 := eq_true p430
            replace q430 := eq_true q430
            go_wp2_with (first | ((with_reducible refine gate_dst (N := 12) rfl ?_); (try (refine gate_guard (by rfl) ?_; dsimp only)); refine box_event ?hg (N := 12) ?hd (cs := #[.int .i64 0, .int .i64 0, .int .i64 0]) (t := 43) ?hr ?_; (case hd => rfl); (case hg => rfl); (case hr => first | (go_simp; done) | (go_simp; rfl)); intro gb431 hg w54 hbox hb; have n0_ := Aside0.mk (Kd.R_below (by (with_reducible repeat (first | apply Kd.R_alloc | apply Kd.R_drewN | apply Kd.R_drew)); exact HO_7.out) hb); have n1_ := Aside0.mk (below_step (by repeat (first | (with_reducible first | exact HB.out | apply below_alloc | apply pw_below_drewN | apply below_drew1) | exact HB.out)) hb); have n2_ := Aside0.mk (hbox); have n3_ := Aside0.mk ((by rw [hg]; exact (below_size (by repeat (first | (with_reducible first | exact HB.out | apply below_alloc | apply pw_below_drewN | apply below_drew1) | exact HB.out))) : w.heap.size ≤ gb431)); have n4_ := Aside0.mk ((by rw [hg]; exact (below_size (by repeat (first | (with_reducible first | exact HB.out | apply below_alloc | apply pw_below_drewN | apply below_drew1) | exact HB.out))) : w.heap.size ≤ gb431)); clear HO_7; clear HB; have HO_7 := n0_; have HB := n1_; have BK431 := n2_; have GW431 := n3_; have GE431 := n4_; clear n0_ n1_ n2_ n3_ n4_; clear hb hbox hg; have hcz55_0 : w54.cell? ⟨gb431, 0, none⟩ = some (.int .i64 0) := (blk_cell BK431.out 0).trans (by rfl); have hcz55_1 : w54.cell? ⟨gb431, 1, none⟩ = some (.int .i64 0) := (blk_cell BK431.out 1).trans (by rfl); have hcz55_2 : w54.cell? ⟨gb431, 2, none⟩ = some (.int .i64 0) := (blk_cell BK431.out 2).trans (by rfl); have hfz55_0 := blk_frozen BK431.out 0; have hfz55_1 := blk_frozen BK431.out 1; have hfz55_2 := blk_frozen BK431.out 2))
            go_loopg [13] k3 (fun kq v13 w' => ∃ (x13_4 : Int), v13 = .int .i64 x13_4 ∧ Aside0 (tithelaw10_EdfLiuLayland.l1 kq l0 (Int.tmod (wrap64 ((Int.tmod a1 500) + 500)) 500) t406 x11_3 x13_4 ((rd_T43 l0 x11_3).f0) ((rd_T43 l0 x11_3).f1) ((rd_T43 l0 x11_3).f2) = some r) ∧ Aside0 (kq ≤ k3) ∧ Aside0 (Kd.R (Kd.int .i64) 3 w' w.heap.size (fun _ => True) (.slice Ao43 t406.length co43) t406) ∧ Aside0 (w'.heap[gb431]? = some (.cells #[.int .i64 ((rd_T43 l0 x11_3).f0), .int .i64 ((rd_T43 l0 x11_3).f1), .int .i64 ((rd_T43 l0 x11_3).f2)] 43 (0, 0))) ∧ Aside0 (Below w.heap.size w w'))
            case atStart => exact ⟨((rd_T43 l0 x11_3).f2), (by first | rfl | (simp; done) | (simp [*]; done)), H', ⟨Nat.le_refl _⟩, ⟨by (with_reducible repeat (first | apply Kd.R_alloc | apply Kd.R_drewN | apply Kd.R_drew)); exact Kd.R_mono (Kd.R_far (p := ⟨gb431, 2, none⟩) (Kd.R_far (p := ⟨gb431, 1, none⟩) (Kd.R_far (p := ⟨gb431, 0, none⟩) (Kd.R_types HO_7.out BK431.out (by decide)) (fun _ hk => hk.2) (.int .i64 ((rd_T43 l0 x11_3).f0))) (fun _ hk => hk.2) (.int .i64 ((rd_T43 l0 x11_3).f1))) (fun _ hk => hk.2) (.int .i64 ((rd_T43 l0 x11_3).f2))) (fun _ hk => trivial)⟩, ⟨by (with_reducible repeat (first | refine blk_drewN ?_ _ | refine blk_drew ?_ | refine blk_alloc ?_ _)); refine blk_put (cs := #[.int .i64 ((rd_T43 l0 x11_3).f0), .int .i64 ((rd_T43 l0 x11_3).f1), .int .i64 0]) ?_ 2 _ rfl; (with_reducible repeat (first | refine blk_drewN ?_ _ | refine blk_drew ?_ | refine blk_alloc ?_ _)); refine blk_put (cs := #[.int .i64 ((rd_T43 l0 x11_3).f0), .int .i64 0, .int .i64 0]) ?_ 1 _ rfl; (with_reducible repeat (first | refine blk_drewN ?_ _ | refine blk_drew ?_ | refine blk_alloc ?_ _)); refine blk_put (cs := #[.int .i64 0, .int .i64 0, .int .i64 0]) ?_ 0 _ rfl; (with_reducible repeat (first | refine blk_drewN ?_ _ | refine blk_drew ?_ | refine blk_alloc ?_ _)); exact BK431.out⟩, ⟨by repeat (first | (with_reducible first | exact HB.out | apply below_alloc | apply pw_below_drewN | apply below_drew1 | refine below_set ?_ GE431.out) | exact HB.out)⟩⟩
            case round =>
             clear H'
             try clear c1
             try clear c2
             try clear p2
             try clear c3
             try clear c4
             try clear p4
             try clear q4
             try clear hx4
             try clear c5
             try clear p6
             try clear c13
             try clear c14
             try clear c19
             try clear c20
             try clear c25
             try clear c25b0
             try clear c25b1
             try clear c25b2
             try clear c30
             try clear c30b0
             try clear c30b1
             try clear c30b2
             try clear c35
             try clear c35b0
             try clear q41
             try clear q42
             try clear p43
             try clear q43
             try clear hx43
             try clear c45
             try clear c45b0
             try clear c45b1
             try clear c45b2
             try clear c47
             try clear c51
             try clear c52
             try clear c52b0
             try clear c53
             try clear c53b0
             try clear hcz55_0
             try clear hcz55_1
             try clear hcz55_2
             try clear hfz55_0
             try clear hfz55_1
             try clear hfz55_2
             try clear hx430_0
             try clear hx430_1
             try clear hx430_2
             try clear p2
             try clear p430
             try clear p6
             try clear q4
             try clear q41
             try clear q412
             try clear q416
             try clear q42
             try clear q427
             try clear q430
             obtain ⟨x13_4, rfl, HA, HK4, HO_7, BK431, HB⟩ := hrel
             cases gk with
             | zero => exact absurd HA.out (by simp [tithelaw10_EdfLiuLayland.l1])
             | succ k4 =>
              have H := HA.out
              clear HA
              simp only [tithelaw10_EdfLiuLayland.l1] at H
              by_cases c56 : (wrap64 (x13_4 + ((rd_T43 l0 x11_3).f1))) ≤ (Int.tmod (wrap64 ((Int.tmod a1 500) + 500)) 500)
              ·rw [if_pos c56] at H
               have c56b0 : decide ((wrap64 (x13_4 + ((rd_T43 l0 x11_3).f1))) ≤ (Int.tmod (wrap64 ((Int.tmod a1 500) + 500)) 500)) = true := decide_eq_true c56
               clear c56
               have H' := Aside0.mk H
               clear H
               have hcz57_0 : wr.cell? ⟨gb431, 0, none⟩ = some (.int .i64 ((rd_T43 l0 x11_3).f0)) := (blk_cell BK431.out 0).trans (by rfl)
               have hcz57_1 : wr.cell? ⟨gb431, 1, none⟩ = some (.int .i64 ((rd_T43 l0 x11_3).f1)) := (blk_cell BK431.out 1).trans (by rfl)
               have hcz57_2 : wr.cell? ⟨gb431, 2, none⟩ = some (.int .i64 ((rd_T43 l0 x11_3).f2)) := (blk_cell BK431.out 2).trans (by rfl)
               have hfz57_0 := blk_frozen BK431.out 0
               have hfz57_1 := blk_frozen BK431.out 1
               have hfz57_2 := blk_frozen BK431.out 2
               go_wp2
               go_loopg [14, 15] k4 (fun kq v14 v15 w' => ∃ (x14_5 : Int) (x15_5 : Int), v14 = .int .i64 x14_5 ∧ v15 = .int .i64 x15_5 ∧ Aside0 (tithelaw10_EdfLiuLayland.l2 kq l0 (Int.tmod (wrap64 ((Int.tmod a1 500) + 500)) 500) t406 x11_3 x13_4 x14_5 x15_5 ((rd_T43 l0 x11_3).f0) ((rd_T43 l0 x11_3).f1) ((rd_T43 l0 x11_3).f2) = some r) ∧ Aside0 (kq ≤ k4) ∧ Aside0 (Kd.R (Kd.int .i64) 3 w' w.heap.size (fun _ => True) (.slice Ao43 t406.length co43) t406) ∧ Aside0 (w'.heap[gb431]? = some (.cells #[.int .i64 ((rd_T43 l0 x11_3).f0), .int .i64 ((rd_T43 l0 x11_3).f1), .int .i64 ((rd_T43 l0 x11_3).f2)] 43 (0, 0))) ∧ Aside0 (Below w.heap.size w w'))
               case atStart => exact ⟨(0), (x13_4), (by first | rfl | (simp; done) | (simp [*]; done)), (by first | rfl | (simp; done) | (simp [*]; done)), H', ⟨Nat.le_refl _⟩, ⟨by (with_reducible repeat (first | apply Kd.R_alloc | apply Kd.R_drewN | apply Kd.R_drew)); exact HO_7.out⟩, ⟨by (with_reducible repeat (first | refine blk_drewN ?_ _ | refine blk_drew ?_ | refine blk_alloc ?_ _)); exact BK431.out⟩, ⟨by repeat (first | (with_reducible first | exact HB.out | apply below_alloc | apply pw_below_drewN | apply below_drew1 | refine below_set ?_ GE431.out) | exact HB.out)⟩⟩
               case round =>
                clear H'
                try clear c1
                try clear c2
                try clear p2
                try clear c3
                try clear c4
                try clear p4
                try clear q4
                try clear hx4
                try clear c5
                try clear p6
                try clear c13
                try clear c14
                try clear c19
                try clear c20
                try clear c25
                try clear c25b0
                try clear c25b1
                try clear c25b2
                try clear c30
                try clear c30b0
                try clear c30b1
                try clear c30b2
                try clear c35
                try clear c35b0
                try clear q41
                try clear q42
                try clear p43
                try clear q43
                try clear hx43
                try clear c45
                try clear c45b0
                try clear c45b1
                try clear c45b2
                try clear c47
                try clear c51
                try clear c52
                try clear c52b0
                try clear c53
                try clear c53b0
                try clear c56
                try clear c56b0
                try clear hcz55_0
                try clear hcz55_1
                try clear hcz55_2
                try clear hcz57_0
                try clear hcz57_1
                try clear hcz57_2
                try clear hfz55_0
                try clear hfz55_1
                try clear hfz55_2
                try clear hfz57_0
                try clear hfz57_1
                try clear hfz57_2
                try clear hx430_0
                try clear hx430_1
                try clear hx430_2
                try clear p2
                try clear p4
                try clear p43
                try clear p430
                try clear p6
                try clear q4
                try clear q41
                try clear q412
                try clear q416
                try clear q42
                try clear q427
                try clear q43
                try clear q430
                obtain ⟨x14_5, x15_5, rfl, rfl, HA, HK5, HO_7, BK431, HB⟩ := hrel
                cases gk with
                | zero => exact absurd HA.out (by simp [tithelaw10_EdfLiuLayland.l2])
                | succ k5 =>
                 have H := HA.out
                 clear HA
                 simp only [tithelaw10_EdfLiuLayland.l2] at H
                 by_cases c58 : x15_5 < (wrap64 (x13_4 + ((rd_T43 l0 x11_3).f1)))
                 ·rw [if_pos c58] at H
                  have c58b0 : decide (x15_5 < (wrap64 (x13_4 + ((rd_T43 l0 x11_3).f1)))) = true := decide_eq_true c58
                  clear c58
                  by_cases c59 : 0 ≤ x15_5
                  ·rw [if_pos c59] at H
                   have c59b0 : decide (0 ≤ x15_5) = true := decide_eq_true c59
                   clear c59
                   by_cases c60 : x15_5 < (t406.length : Int)
                   ·rw [if_pos c60] at H
                    have c60b0 : decide (x15_5 < (t406.length : Int)) = true := decide_eq_true c60
                    clear c60
                    by_cases c61 : (rd t406 x15_5) = x11_3
                    ·rw [if_pos c61] at H
                     have c61b0 : ((rd t406 x15_5) == x11_3) = true := beq_iff_eq.mpr c61
                     have c61b1 : ((rd t406 x15_5) != x11_3) = false := bne_eq_false_iff_eq.mpr c61
                     clear c61
                     have H' := Aside0.mk H
                     clear H
                     have hcz62_0 : wr.cell? ⟨gb431, 0, none⟩ = some (.int .i64 ((rd_T43 l0 x11_3).f0)) := (blk_cell BK431.out 0).trans (by rfl)
                     have hcz62_1 : wr.cell? ⟨gb431, 1, none⟩ = some (.int .i64 ((rd_T43 l0 x11_3).f1)) := (blk_cell BK431.out 1).trans (by rfl)
                     have hcz62_2 : wr.cell? ⟨gb431, 2, none⟩ = some (.int .i64 ((rd_T43 l0 x11_3).f2)) := (blk_cell BK431.out 2).trans (by rfl)
                     have hfz62_0 := blk_frozen BK431.out 0
                     have hfz62_1 := blk_frozen BK431.out 1
                     have hfz62_2 := blk_frozen BK431.out 2
                     have p432 : 0 ≤ (x15_5 : Int) := of_decide_eq_true (by first | (with_reducible assumption) | assumption)
                     have q432 : x15_5 < (t406.length : Int) := of_decide_eq_true (by first | (with_reducible assumption) | assumption)
                     obtain ⟨ad432, e432, hx432_0⟩ := Kd.at_int (Kd.R_reads' HO_7.out).2.2 x15_5 p432 q432
                     cases e432
                     replace p432 := eq_true p432
                     replace q432 := eq_true q432
                     go_wp2
                     go_roundg k5
                     case measure => have := HJ6.out; have := HJ39.out; have := HK3.out; have := HK4.out; have := HK5.out; omega
                     case rel => exact ⟨(wrap64 (x14_5 + 1)), (wrap64 (x15_5 + 1)), (by first | rfl | (simp; done) | (simp [*]; done)), (by first | rfl | (simp; done) | (simp [*]; done)), H', ⟨by have := HJ6.out; have := HJ39.out; have := HK3.out; have := HK4.out; have := HK5.out; omega⟩, ⟨by (with_reducible repeat (first | apply Kd.R_alloc | apply Kd.R_drewN | apply Kd.R_drew)); exact HO_7.out⟩, ⟨by (with_reducible repeat (first | refine blk_drewN ?_ _ | refine blk_drew ?_ | refine blk_alloc ?_ _)); exact BK431.out⟩, ⟨by repeat (first | (with_reducible first | exact HB.out | apply below_alloc | apply pw_below_drewN | apply below_drew1 | refine below_set ?_ GE431.out) | exact HB.out)⟩⟩
                    ·rw [if_neg c61] at H
                     have c61b0 : ((rd t406 x15_5) == x11_3) = false := beq_eq_false_iff_ne.mpr c61
                     have c61b1 : ((rd t406 x15_5) != x11_3) = true := bne_iff_ne.mpr c61
                     have H' := Aside0.mk H
                     clear H
                     have hcz63_0 : wr.cell? ⟨gb431, 0, none⟩ = some (.int .i64 ((rd_T43 l0 x11_3).f0)) := (blk_cell BK431.out 0).trans (by rfl)
                     have hcz63_1 : wr.cell? ⟨gb431, 1, none⟩ = some (.int .i64 ((rd_T43 l0 x11_3).f1)) := (blk_cell BK431.out 1).trans (by rfl)
                     have hcz63_2 : wr.cell? ⟨gb431, 2, none⟩ = some (.int .i64 ((rd_T43 l0 x11_3).f2)) := (blk_cell BK431.out 2).trans (by rfl)
                     have hfz63_0 := blk_frozen BK431.out 0
                     have hfz63_1 := blk_frozen BK431.out 1
                     have hfz63_2 := blk_frozen BK431.out 2
                     have p432 : 0 ≤ (x15_5 : Int) := of_decide_eq_true (by first | (with_reducible assumption) | assumption)
                     have q432 : x15_5 < (t406.length : Int) := of_decide_eq_true (by first | (with_reducible assumption) | assumption)
                     obtain ⟨ad432, e432, hx432_0⟩ := Kd.at_int (Kd.R_reads' HO_7.out).2.2 x15_5 p432 q432
                     cases e432
                     replace p432 := eq_true p432
                     replace q432 := eq_true q432
                     go_wp2
                     go_roundg k5
                     case measure => have := HJ6.out; have := HJ39.out; have := HK3.out; have := HK4.out; have := HK5.out; omega
                     case rel => exact ⟨(x14_5), (wrap64 (x15_5 + 1)), (by first | rfl | (simp; done) | (simp [*]; done)), (by first | rfl | (simp; done) | (simp [*]; done)), H', ⟨by have := HJ6.out; have := HJ39.out; have := HK3.out; have := HK4.out; have := HK5.out; omega⟩, ⟨by (with_reducible repeat (first | apply Kd.R_alloc | apply Kd.R_drewN | apply Kd.R_drew)); exact HO_7.out⟩, ⟨by (with_reducible repeat (first | refine blk_drewN ?_ _ | refine blk_drew ?_ | refine blk_alloc ?_ _)); exact BK431.out⟩, ⟨by repeat (first | (with_reducible first | exact HB.out | apply below_alloc | apply pw_below_drewN | apply below_drew1 | refine below_set ?_ GE431.out) | exact HB.out)⟩⟩
                   ·rw [if_neg c60] at H
                    exact absurd H (by simp)
                  ·rw [if_neg c59] at H
                   exact absurd H (by simp)
                 ·rw [if_neg c58] at H
                  have c58b0 : decide (x15_5 < (wrap64 (x13_4 + ((rd_T43 l0 x11_3).f1)))) = false := decide_eq_false c58
                  clear c58
                  by_cases c64 : x14_5 = ((rd_T43 l0 x11_3).f0)
                  ·rw [if_pos c64] at H
                   have c64b0 : (x14_5 == ((rd_T43 l0 x11_3).f0)) = true := beq_iff_eq.mpr c64
                   have c64b1 : (x14_5 != ((rd_T43 l0 x11_3).f0)) = false := bne_eq_false_iff_eq.mpr c64
                   clear c64
                   replace H := Option.bind_eq_some_iff.mp H
                   obtain ⟨⟨t433, t434⟩, A650, H⟩ := H
                   replace H : (if t434.isNone = true then (if t433 = 0 then (tithelaw10_EdfLiuLayland.l1 k5 l0 (Int.tmod (wrap64 ((Int.tmod a1 500) + 500)) 500) t406 x11_3 (wrap64 (x13_4 + ((rd_T43 l0 x11_3).f1))) ((rd_T43 l0 x11_3).f0) ((rd_T43 l0 x11_3).f1) ((rd_T43 l0 x11_3).f2)) else (some false)) else (some false)) = some r := H
                   have A65 := Aside0.mk A650
                   clear A650
                   rcases t434 with _ | q435
                   ·have H1 : (if t433 = 0 then (tithelaw10_EdfLiuLayland.l1 k5 l0 (Int.tmod (wrap64 ((Int.tmod a1 500) + 500)) 500) t406 x11_3 (wrap64 (x13_4 + ((rd_T43 l0 x11_3).f1))) ((rd_T43 l0 x11_3).f0) ((rd_T43 l0 x11_3).f1) ((rd_T43 l0 x11_3).f2)) else (some false)) = some r := by rw [if_pos (show (none : Option Int).isNone = true by rfl)] at H; exact H
                    clear H
                    have H := H1
                    clear H1
                    try simp only [errW_none, errW_some]
                    by_cases c66 : t433 = 0
                    ·rw [if_pos c66] at H
                     have c66b0 : (t433 == 0) = true := beq_iff_eq.mpr c66
                     have c66b1 : (t433 != 0) = false := bne_eq_false_iff_eq.mpr c66
                     clear c66
                     have H' := Aside0.mk H
                     clear H
                     have hcz67_0 : wr.cell? ⟨gb431, 0, none⟩ = some (.int .i64 ((rd_T43 l0 x11_3).f0)) := (blk_cell BK431.out 0).trans (by rfl)
                     have hcz67_1 : wr.cell? ⟨gb431, 1, none⟩ = some (.int .i64 ((rd_T43 l0 x11_3).f1)) := (blk_cell BK431.out 1).trans (by rfl)
                     have hcz67_2 : wr.cell? ⟨gb431, 2, none⟩ = some (.int .i64 ((rd_T43 l0 x11_3).f2)) := (blk_cell BK431.out 2).trans (by rfl)
                     have hfz67_0 := blk_frozen BK431.out 0
                     have hfz67_1 := blk_frozen BK431.out 1
                     have hfz67_2 := blk_frozen BK431.out 2
                     go_wp2_with (first | ((with_reducible refine gate_callee (f := 28) rfl ?_); refine goesL_ (some 129) rfl rfl Try.func28 (by kernel_rfl) rfl #[.agg #[.int .i64 ((rd_T43 l0 x11_3).f0), .int .i64 ((rd_T43 l0 x11_3).f1), .int .i64 ((rd_T43 l0 x11_3).f2)], .int .i64 x14_5, .int .i64 (wrap64 (((rd_T43 l0 x11_3).f2) + ((rd_T43 l0 x11_3).f1)))] rfl (by (try simp only [List.map_toArray, List.map_cons, List.map_nil]); first | done | rfl | (simp only [List.length_drop, List.length_take]; rfl)) ?_; (with_reducible refine (edf_Lag.calls k5 ((rd_T43 l0 x11_3).f0) ((rd_T43 l0 x11_3).f1) ((rd_T43 l0 x11_3).f2) x14_5 (wrap64 (((rd_T43 l0 x11_3).f2) + ((rd_T43 l0 x11_3).f1))) t433 none _ A65.out).mono ?_); rintro e w68 ⟨rfl, hb⟩; refine ⟨_, rfl, ?_⟩; have n0_ := Aside0.mk (Kd.R_below (by (with_reducible repeat (first | apply Kd.R_alloc | apply Kd.R_drewN | apply Kd.R_drew)); exact HO_7.out) hb); have n1_ := Aside0.mk (blk_below (g := gb431) (o := .cells #[.int .i64 ((rd_T43 l0 x11_3).f0), .int .i64 ((rd_T43 l0 x11_3).f1), .int .i64 ((rd_T43 l0 x11_3).f2)] 43 (0, 0)) (by (with_reducible repeat (first | refine blk_drewN ?_ _ | refine blk_drew ?_ | refine blk_alloc ?_ _)); exact BK431.out) hb); have n2_ := Aside0.mk (below_step (by repeat (first | (with_reducible first | exact HB.out | apply below_alloc | apply pw_below_drewN | apply below_drew1 | refine below_set ?_ GE431.out) | exact HB.out)) hb); clear HO_7; clear BK431; clear HB; have HO_7 := n0_; have BK431 := n1_; have HB := n2_; clear n0_ n1_ n2_; (try clear hb); (try clear hb2); (try clear hk); (try clear hi); (try simp only [errW_none, errW_some]); have hcz69_0 : w68.cell? ⟨gb431, 0, none⟩ = some (.int .i64 ((rd_T43 l0 x11_3).f0)) := (blk_cell BK431.out 0).trans (by rfl); have hcz69_1 : w68.cell? ⟨gb431, 1, none⟩ = some (.int .i64 ((rd_T43 l0 x11_3).f1)) := (blk_cell BK431.out 1).trans (by rfl); have hcz69_2 : w68.cell? ⟨gb431, 2, none⟩ = some (.int .i64 ((rd_T43 l0 x11_3).f2)) := (blk_cell BK431.out 2).trans (by rfl); have hfz69_0 := blk_frozen BK431.out 0; have hfz69_1 := blk_frozen BK431.out 1; have hfz69_2 := blk_frozen BK431.out 2))
                     go_roundg k5
                     case measure => have := HJ6.out; have := HJ39.out; have := HK3.out; have := HK4.out; have := HK5.out; omega
                     case rel => exact ⟨(wrap64 (x13_4 + ((rd_T43 l0 x11_3).f1))), (by first | rfl | (simp; done) | (simp [*]; done)), H', ⟨by have := HJ6.out; have := HJ39.out; have := HK3.out; have := HK4.out; have := HK5.out; omega⟩, ⟨by (with_reducible repeat (first | apply Kd.R_alloc | apply Kd.R_drewN | apply Kd.R_drew)); exact HO_7.out⟩, ⟨by (with_reducible repeat (first | refine blk_drewN ?_ _ | refine blk_drew ?_ | refine blk_alloc ?_ _)); exact BK431.out⟩, ⟨by repeat (first | (with_reducible first | exact HB.out | apply below_alloc | apply pw_below_drewN | apply below_drew1 | refine below_set ?_ GE431.out) | exact HB.out)⟩⟩
                    ·rw [if_neg c66] at H
                     have c66b0 : (t433 == 0) = false := beq_eq_false_iff_ne.mpr c66
                     have c66b1 : (t433 != 0) = true := bne_iff_ne.mpr c66
                     obtain rfl := Option.some.inj H
                     have hcz70_0 : wr.cell? ⟨gb431, 0, none⟩ = some (.int .i64 ((rd_T43 l0 x11_3).f0)) := (blk_cell BK431.out 0).trans (by rfl)
                     have hcz70_1 : wr.cell? ⟨gb431, 1, none⟩ = some (.int .i64 ((rd_T43 l0 x11_3).f1)) := (blk_cell BK431.out 1).trans (by rfl)
                     have hcz70_2 : wr.cell? ⟨gb431, 2, none⟩ = some (.int .i64 ((rd_T43 l0 x11_3).f2)) := (blk_cell BK431.out 2).trans (by rfl)
                     have hfz70_0 := blk_frozen BK431.out 0
                     have hfz70_1 := blk_frozen BK431.out 1
                     have hfz70_2 := blk_frozen BK431.out 2
                     go_wp2_with (first | ((with_reducible refine gate_callee (f := 28) rfl ?_); refine goesL_ (some 129) rfl rfl Try.func28 (by kernel_rfl) rfl #[.agg #[.int .i64 ((rd_T43 l0 x11_3).f0), .int .i64 ((rd_T43 l0 x11_3).f1), .int .i64 ((rd_T43 l0 x11_3).f2)], .int .i64 x14_5, .int .i64 (wrap64 (((rd_T43 l0 x11_3).f2) + ((rd_T43 l0 x11_3).f1)))] rfl (by (try simp only [List.map_toArray, List.map_cons, List.map_nil]); first | done | rfl | (simp only [List.length_drop, List.length_take]; rfl)) ?_; (with_reducible refine (edf_Lag.calls k5 ((rd_T43 l0 x11_3).f0) ((rd_T43 l0 x11_3).f1) ((rd_T43 l0 x11_3).f2) x14_5 (wrap64 (((rd_T43 l0 x11_3).f2) + ((rd_T43 l0 x11_3).f1))) t433 none _ A65.out).mono ?_); rintro e w71 ⟨rfl, hb⟩; refine ⟨_, rfl, ?_⟩; have n0_ := Aside0.mk (Kd.R_below (by (with_reducible repeat (first | apply Kd.R_alloc | apply Kd.R_drewN | apply Kd.R_drew)); exact HO_7.out) hb); have n1_ := Aside0.mk (blk_below (g := gb431) (o := .cells #[.int .i64 ((rd_T43 l0 x11_3).f0), .int .i64 ((rd_T43 l0 x11_3).f1), .int .i64 ((rd_T43 l0 x11_3).f2)] 43 (0, 0)) (by (with_reducible repeat (first | refine blk_drewN ?_ _ | refine blk_drew ?_ | refine blk_alloc ?_ _)); exact BK431.out) hb); have n2_ := Aside0.mk (below_step (by repeat (first | (with_reducible first | exact HB.out | apply below_alloc | apply pw_below_drewN | apply below_drew1 | refine below_set ?_ GE431.out) | exact HB.out)) hb); clear HO_7; clear BK431; clear HB; have HO_7 := n0_; have BK431 := n1_; have HB := n2_; clear n0_ n1_ n2_; (try clear hb); (try clear hb2); (try clear hk); (try clear hi); (try simp only [errW_none, errW_some])))
                     go_ret
                     exact ⟨by first | rfl | (simp [errW_none, errW_some] <;> rfl) | (simp [*, errW_none, errW_some] <;> rfl), by repeat (first | (with_reducible first | exact HB.out | apply below_alloc | apply pw_below_drewN | apply below_drew1 | refine below_set ?_ GE431.out) | exact HB.out)⟩
                   ·have H1 : (some false) = some r := by rw [if_neg (show ¬ (some q435).isNone = true by simp)] at H; exact H
                    clear H
                    have H := H1
                    clear H1
                    try simp only [errW_none, errW_some]
                    obtain rfl := Option.some.inj H
                    have hcz72_0 : wr.cell? ⟨gb431, 0, none⟩ = some (.int .i64 ((rd_T43 l0 x11_3).f0)) := (blk_cell BK431.out 0).trans (by rfl)
                    have hcz72_1 : wr.cell? ⟨gb431, 1, none⟩ = some (.int .i64 ((rd_T43 l0 x11_3).f1)) := (blk_cell BK431.out 1).trans (by rfl)
                    have hcz72_2 : wr.cell? ⟨gb431, 2, none⟩ = some (.int .i64 ((rd_T43 l0 x11_3).f2)) := (blk_cell BK431.out 2).trans (by rfl)
                    have hfz72_0 := blk_frozen BK431.out 0
                    have hfz72_1 := blk_frozen BK431.out 1
                    have hfz72_2 := blk_frozen BK431.out 2
                    go_wp2_with (first | ((with_reducible refine gate_callee (f := 28) rfl ?_); refine goesL_ (some 129) rfl rfl Try.func28 (by kernel_rfl) rfl #[.agg #[.int .i64 ((rd_T43 l0 x11_3).f0), .int .i64 ((rd_T43 l0 x11_3).f1), .int .i64 ((rd_T43 l0 x11_3).f2)], .int .i64 x14_5, .int .i64 (wrap64 (((rd_T43 l0 x11_3).f2) + ((rd_T43 l0 x11_3).f1)))] rfl (by (try simp only [List.map_toArray, List.map_cons, List.map_nil]); first | done | rfl | (simp only [List.length_drop, List.length_take]; rfl)) ?_; (with_reducible refine (edf_Lag.calls k5 ((rd_T43 l0 x11_3).f0) ((rd_T43 l0 x11_3).f1) ((rd_T43 l0 x11_3).f2) x14_5 (wrap64 (((rd_T43 l0 x11_3).f2) + ((rd_T43 l0 x11_3).f1))) t433 (some q435) _ A65.out).mono ?_); rintro e w73 ⟨rfl, hb⟩; refine ⟨_, rfl, ?_⟩; have n0_ := Aside0.mk (Kd.R_below (by (with_reducible repeat (first | apply Kd.R_alloc | apply Kd.R_drewN | apply Kd.R_drew)); exact HO_7.out) hb); have n1_ := Aside0.mk (blk_below (g := gb431) (o := .cells #[.int .i64 ((rd_T43 l0 x11_3).f0), .int .i64 ((rd_T43 l0 x11_3).f1), .int .i64 ((rd_T43 l0 x11_3).f2)] 43 (0, 0)) (by (with_reducible repeat (first | refine blk_drewN ?_ _ | refine blk_drew ?_ | refine blk_alloc ?_ _)); exact BK431.out) hb); have n2_ := Aside0.mk (below_step (by repeat (first | (with_reducible first | exact HB.out | apply below_alloc | apply pw_below_drewN | apply below_drew1 | refine below_set ?_ GE431.out) | exact HB.out)) hb); clear HO_7; clear BK431; clear HB; have HO_7 := n0_; have BK431 := n1_; have HB := n2_; clear n0_ n1_ n2_; (try clear hb); (try clear hb2); (try clear hk); (try clear hi); (try simp only [errW_none, errW_some])))
                    go_ret
                    exact ⟨by first | rfl | (simp [errW_none, errW_some] <;> rfl) | (simp [*, errW_none, errW_some] <;> rfl), by repeat (first | (with_reducible first | exact HB.out | apply below_alloc | apply pw_below_drewN | apply below_drew1 | refine below_set ?_ GE431.out) | exact HB.out)⟩
                  ·rw [if_neg c64] at H
                   have c64b0 : (x14_5 == ((rd_T43 l0 x11_3).f0)) = false := beq_eq_false_iff_ne.mpr c64
                   have c64b1 : (x14_5 != ((rd_T43 l0 x11_3).f0)) = true := bne_iff_ne.mpr c64
                   obtain rfl := Option.some.inj H
                   have hcz74_0 : wr.cell? ⟨gb431, 0, none⟩ = some (.int .i64 ((rd_T43 l0 x11_3).f0)) := (blk_cell BK431.out 0).trans (by rfl)
                   have hcz74_1 : wr.cell? ⟨gb431, 1, none⟩ = some (.int .i64 ((rd_T43 l0 x11_3).f1)) := (blk_cell BK431.out 1).trans (by rfl)
                   have hcz74_2 : wr.cell? ⟨gb431, 2, none⟩ = some (.int .i64 ((rd_T43 l0 x11_3).f2)) := (blk_cell BK431.out 2).trans (by rfl)
                   have hfz74_0 := blk_frozen BK431.out 0
                   have hfz74_1 := blk_frozen BK431.out 1
                   have hfz74_2 := blk_frozen BK431.out 2
                   go_wp2
                   go_ret
                   exact ⟨by first | rfl | (simp [errW_none, errW_some] <;> rfl) | (simp [*, errW_none, errW_some] <;> rfl), by repeat (first | (with_reducible first | exact HB.out | apply below_alloc | apply pw_below_drewN | apply below_drew1 | refine below_set ?_ GE431.out) | exact HB.out)⟩
              ·rw [if_neg c56] at H
               have c56b0 : decide ((wrap64 (x13_4 + ((rd_T43 l0 x11_3).f1))) ≤ (Int.tmod (wrap64 ((Int.tmod a1 500) + 500)) 500)) = false := decide_eq_false c56
               clear c56
               have H' := Aside0.mk H
               clear H
               have hcz75_0 : wr.cell? ⟨gb431, 0, none⟩ = some (.int .i64 ((rd_T43 l0 x11_3).f0)) := (blk_cell BK431.out 0).trans (by rfl)
               have hcz75_1 : wr.cell? ⟨gb431, 1, none⟩ = some (.int .i64 ((rd_T43 l0 x11_3).f1)) := (blk_cell BK431.out 1).trans (by rfl)
               have hcz75_2 : wr.cell? ⟨gb431, 2, none⟩ = some (.int .i64 ((rd_T43 l0 x11_3).f2)) := (blk_cell BK431.out 2).trans (by rfl)
               have hfz75_0 := blk_frozen BK431.out 0
               have hfz75_1 := blk_frozen BK431.out 1
               have hfz75_2 := blk_frozen BK431.out 2
               go_wp2
               go_roundg k4
               case measure => have := HJ6.out; have := HJ39.out; have := HK3.out; have := HK4.out; omega
               case rel => exact ⟨(wrap64 (x11_3 + 1)), (by first | rfl | (simp; done) | (simp [*]; done)), H', ⟨by have := HJ6.out; have := HJ39.out; have := HK3.out; have := HK4.out; omega⟩, ⟨by (with_reducible repeat (first | apply Kd.R_alloc | apply Kd.R_drewN | apply Kd.R_drew)); exact HO_7.out⟩, ⟨by repeat (first | (with_reducible first | exact HB.out | apply below_alloc | apply pw_below_drewN | apply below_drew1 | refine below_set ?_ GE431.out) | exact HB.out)⟩⟩
           ·rw [if_neg c53] at H
            exact absurd H (by simp)
          ·rw [if_neg c52] at H
           have c52b0 : decide (x11_3 < (l0.length : Int)) = false := decide_eq_false c52
           clear c52
           replace H := Option.bind_eq_some_iff.mp H
           obtain ⟨t429, A760, H⟩ := H
           replace H : (some t429) = some r := H
           have A76 := Aside0.mk A760
           clear A760
           obtain rfl := Option.some.inj H
           go_wp2_with (first | ((with_reducible refine gate_callee (f := 19) rfl ?_); refine goesL_ (some 138) rfl rfl Try.func19 (by kernel_rfl) rfl #[] rfl (by (try simp only [List.map_toArray, List.map_cons, List.map_nil]); first | done | rfl | (simp only [List.length_drop, List.length_take]; rfl)) ?_; (with_reducible refine (tithelaw10_works.calls k3  t429 _ A76.out).mono ?_); rintro e w77 ⟨rfl, hb⟩; refine ⟨_, rfl, ?_⟩; have n0_ := Aside0.mk (Kd.R_below (by (with_reducible repeat (first | apply Kd.R_alloc | apply Kd.R_drewN | apply Kd.R_drew)); exact HO_7.out) hb); have n1_ := Aside0.mk (below_step (by repeat (first | (with_reducible first | exact HB.out | apply below_alloc | apply pw_below_drewN | apply below_drew1) | exact HB.out)) hb); clear HO_7; clear HB; have HO_7 := n0_; have HB := n1_; clear n0_ n1_; (try clear hb); (try clear hb2); (try clear hk); (try clear hi)))
           go_ret
           exact ⟨by first | rfl | (simp [errW_none, errW_some] <;> rfl) | (simp [*, errW_none, errW_some] <;> rfl), by repeat (first | (with_reducible first | exact HB.out | apply below_alloc | apply pw_below_drewN | apply below_drew1) | exact HB.out)⟩

end Go.Proofs.YthhaikkicabplaaR.X
