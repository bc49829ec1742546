/- Proved here: what the machine does at calls of the functions that the laws reach is what plain functions of the same names say, or a row of the given statement out of that. No conditions. Written by a program of this session over the printer of the kit. -/
import Derived.Test.YthhaikkicabplaaRFnV
import Derived.Test.YthhaikkicabplaaRPx0
import Derived.Test.YthhaikkicabplaaRPx2
import Derived.Test.YthhaikkicabplaaRPx4
namespace Go.Proofs.YthhaikkicabplaaR.P
open Go.RowKit Go.Proofs.YthhaikkicabplaaRW.PrintWords Go.Proofs.YthhaikkicabplaaRW.PrintLast Go.Proofs.YthhaikkicabplaaRW.PrintMore
attribute [local go_sem] max2_int min2_int max_two min_two max_three min_three max_four min_four   -- for this text's walks alone
set_option linter.unusedVariables false
set_option linter.unusedSimpArgs false

/-! ### edf_Plan: function 12 -/
mutual
def edf_Plan.j0 : Nat → List (S55) → Int → Bool → Option (List Int × Option Int)
 | 0, _, _, _ => none
 | k + 1, x0, x1, x20 => if x20 = true then (some (([] : List Int), some 1)) else ((edf_Valid.f k x0).bind fun t124 => (if t124.isNone = true then (if 0 ≤ (x0.length : Int) then (if ((x0.length : Int) : Int).toNat ≤ 11728124029610 then (edf_Plan.l0 k x0 x1 (List.replicate ((x0.length : Int) : Int).toNat z59) x0 (x0.length : Int) 0) else (none)) else (none)) else (some (([] : List Int), some (t124.getD 0)))))
def edf_Plan.l0 : Nat → List (S55) → Int → List (S59) → List (S55) → Int → Int → Option (List Int × Option Int)
 | 0, _, _, _, _, _, _ => none
 | k + 1, x0, x1, x7, x30, x31, x32 => if x32 < x31 then (if 0 ≤ x32 then (if x32 < (x30.length : Int) then (if x32 < (x7.length : Int) then (edf_Plan.l0 k x0 x1 (x7.set (x32 : Int).toNat (⟨x32, 0, (rd_T55 x30 x32).f2⟩ : S59)) x30 x31 (wrap64 (x32 + 1))) else (none)) else (none)) else (none)) else (edf_Plan.l1 k x0 x7 ([] : List Int) x1 0)
def edf_Plan.l1 : Nat → List (S55) → List (S59) → List Int → Int → Int → Option (List Int × Option Int)
 | 0, _, _, _, _, _ => none
 | k + 1, x0, x7, x10, x45, x46 => if x46 < x45 then (edf_Plan.l2 k x0 x7 x10 x46 x45 x46 (x7.length : Int) 0) else (some (x10, none))
def edf_Plan.l2 : Nat → List (S55) → List (S59) → List Int → Int → Int → Int → Int → Int → Option (List Int × Option Int)
 | 0, _, _, _, _, _, _, _, _ => none
 | k + 1, x0, x7, x10, x11, x45, x46, x50, x51 => if x51 < x50 then (if 0 ≤ x51 then (if x51 < (x7.length : Int) then (if ((rd_T59 x7 x51).f2) = x11 then (if x51 < (x0.length : Int) then ((some (x7.set (x51 : Int).toNat (⟨(rd_T59 x7 x51).f0, (rd_T55 x0 x51).f0, (rd_T59 x7 x51).f2⟩ : S59) : List (S59))).bind fun y135 => (edf_Plan.l2 k x0 (y135.set (x51 : Int).toNat (⟨(rd_T59 y135 x51).f0, (rd_T59 y135 x51).f1, wrap64 (x11 + ((rd_T55 x0 x51).f1))⟩ : S59)) x10 x11 x45 x46 x50 (wrap64 (x51 + 1)))) else (none)) else (edf_Plan.l2 k x0 x7 x10 x11 x45 x46 x50 (wrap64 (x51 + 1)))) else (none)) else (none)) else ((edf_Pick.f k x7).bind fun t137 => (if t137 ≥ 0 then (if 0 ≤ t137 then (if t137 < (x7.length : Int) then (if x10.length < 17592186044416 then (edf_Plan.l1 k x0 (x7.set (t137 : Int).toNat (⟨(rd_T59 x7 t137).f0, wrap64 (((rd_T59 x7 t137).f1) - 1), (rd_T59 x7 t137).f2⟩ : S59)) (x10 ++ [t137]) x45 (wrap64 (x46 + 1))) else (none)) else (none)) else (none)) else (if x10.length < 17592186044416 then (edf_Plan.l1 k x0 x7 (x10 ++ [t137]) x45 (wrap64 (x46 + 1))) else (none))))
end
def edf_Plan.f (k : Nat) (l0 : List (S55)) (a1 : Int) : Option (List Int × Option Int) := if a1 < 0 then (edf_Plan.j0 k l0 a1 true) else (edf_Plan.j0 k l0 a1 (decide (a1 > 4096)))
theorem edf_Plan.mono_l : ∀ k, (∀ y0 y1 y2, LeO (edf_Plan.j0 k y0 y1 y2) (edf_Plan.j0 (k + 1) y0 y1 y2)) ∧ (∀ y0 y1 y2 y3 y4 y5, LeO (edf_Plan.l0 k y0 y1 y2 y3 y4 y5) (edf_Plan.l0 (k + 1) y0 y1 y2 y3 y4 y5)) ∧ (∀ y0 y1 y2 y3 y4, LeO (edf_Plan.l1 k y0 y1 y2 y3 y4) (edf_Plan.l1 (k + 1) y0 y1 y2 y3 y4)) ∧ (∀ y0 y1 y2 y3 y4 y5 y6 y7, LeO (edf_Plan.l2 k y0 y1 y2 y3 y4 y5 y6 y7) (edf_Plan.l2 (k + 1) y0 y1 y2 y3 y4 y5 y6 y7))
 | 0 => ⟨fun _ _ _ r h => by simp [edf_Plan.j0] at h, fun _ _ _ _ _ _ r h => by simp [edf_Plan.l0] at h, fun _ _ _ _ _ r h => by simp [edf_Plan.l1] at h, fun _ _ _ _ _ _ _ _ r h => by simp [edf_Plan.l2] at h⟩
 | k + 1 => by
  obtain ⟨ih0, ih1, ih2, ih3⟩ := edf_Plan.mono_l k
  refine ⟨?_, ?_, ?_, ?_⟩
  ·intro y0 y1 y2
   unfold edf_Plan.j0
   repeat' first
   | (with_reducible exact ih0 _ _ _)
   | (with_reducible exact ih1 _ _ _ _ _ _)
   | (with_reducible exact ih2 _ _ _ _ _)
   | (with_reducible exact ih3 _ _ _ _ _ _ _ _)
   | (with_reducible exact edf_Pick.mono _ _)
   | (with_reducible exact edf_Valid.mono _ _)
   | (with_reducible exact LeO.refl _)
   | (with_reducible exact LeO.none _)
   | (with_reducible refine LeO.ite ?_ ?_)
   | (with_reducible refine LeO.bind ?_ (fun _ => ?_))
   | exact ih0 _ _ _
   | exact ih1 _ _ _ _ _ _
   | exact ih2 _ _ _ _ _
   | exact ih3 _ _ _ _ _ _ _ _
   | exact edf_Pick.mono _ _
   | exact edf_Valid.mono _ _
   | exact LeO.none _
   | refine LeO.ite ?_ ?_
   | refine LeO.bind ?_ (fun _ => ?_)
  ·intro y0 y1 y2 y3 y4 y5
   unfold edf_Plan.l0
   repeat' first
   | (with_reducible exact ih0 _ _ _)
   | (with_reducible exact ih1 _ _ _ _ _ _)
   | (with_reducible exact ih2 _ _ _ _ _)
   | (with_reducible exact ih3 _ _ _ _ _ _ _ _)
   | (with_reducible exact edf_Pick.mono _ _)
   | (with_reducible exact edf_Valid.mono _ _)
   | (with_reducible exact LeO.refl _)
   | (with_reducible exact LeO.none _)
   | (with_reducible refine LeO.ite ?_ ?_)
   | (with_reducible refine LeO.bind ?_ (fun _ => ?_))
   | exact ih0 _ _ _
   | exact ih1 _ _ _ _ _ _
   | exact ih2 _ _ _ _ _
   | exact ih3 _ _ _ _ _ _ _ _
   | exact edf_Pick.mono _ _
   | exact edf_Valid.mono _ _
   | exact LeO.none _
   | refine LeO.ite ?_ ?_
   | refine LeO.bind ?_ (fun _ => ?_)
  ·intro y0 y1 y2 y3 y4
   unfold edf_Plan.l1
   repeat' first
   | (with_reducible exact ih0 _ _ _)
   | (with_reducible exact ih1 _ _ _ _ _ _)
   | (with_reducible exact ih2 _ _ _ _ _)
   | (with_reducible exact ih3 _ _ _ _ _ _ _ _)
   | (with_reducible exact edf_Pick.mono _ _)
   | (with_reducible exact edf_Valid.mono _ _)
   | (with_reducible exact LeO.refl _)
   | (with_reducible exact LeO.none _)
   | (with_reducible refine LeO.ite ?_ ?_)
   | (with_reducible refine LeO.bind ?_ (fun _ => ?_))
   | exact ih0 _ _ _
   | exact ih1 _ _ _ _ _ _
   | exact ih2 _ _ _ _ _
   | exact ih3 _ _ _ _ _ _ _ _
   | exact edf_Pick.mono _ _
   | exact edf_Valid.mono _ _
   | exact LeO.none _
   | refine LeO.ite ?_ ?_
   | refine LeO.bind ?_ (fun _ => ?_)
  ·intro y0 y1 y2 y3 y4 y5 y6 y7
   unfold edf_Plan.l2
   repeat' first
   | (with_reducible exact ih0 _ _ _)
   | (with_reducible exact ih1 _ _ _ _ _ _)
   | (with_reducible exact ih2 _ _ _ _ _)
   | (with_reducible exact ih3 _ _ _ _ _ _ _ _)
   | (with_reducible exact edf_Pick.mono _ _)
   | (with_reducible exact edf_Valid.mono _ _)
   | (with_reducible exact LeO.refl _)
   | (with_reducible exact LeO.none _)
   | (with_reducible refine LeO.ite ?_ ?_)
   | (with_reducible refine LeO.bind ?_ (fun _ => ?_))
   | exact ih0 _ _ _
   | exact ih1 _ _ _ _ _ _
   | exact ih2 _ _ _ _ _
   | exact ih3 _ _ _ _ _ _ _ _
   | exact edf_Pick.mono _ _
   | exact edf_Valid.mono _ _
   | exact LeO.none _
   | refine LeO.ite ?_ ?_
   | refine LeO.bind ?_ (fun _ => ?_)
theorem edf_Plan.mono : ∀ a0 a1 k, LeO (edf_Plan.f k a0 a1) (edf_Plan.f (k + 1) a0 a1) := by
 intro a0 a1 k
 obtain ⟨ih0, ih1, ih2, ih3⟩ := edf_Plan.mono_l k
 unfold edf_Plan.f
 repeat' first
   | (with_reducible exact ih0 _ _ _)
   | (with_reducible exact ih1 _ _ _ _ _ _)
   | (with_reducible exact ih2 _ _ _ _ _)
   | (with_reducible exact ih3 _ _ _ _ _ _ _ _)
   | (with_reducible exact edf_Pick.mono _ _)
   | (with_reducible exact edf_Valid.mono _ _)
   | (with_reducible exact LeO.refl _)
   | (with_reducible exact LeO.none _)
   | (with_reducible refine LeO.ite ?_ ?_)
   | (with_reducible refine LeO.bind ?_ (fun _ => ?_))
   | exact ih0 _ _ _
   | exact ih1 _ _ _ _ _ _
   | exact ih2 _ _ _ _ _
   | exact ih3 _ _ _ _ _ _ _ _
   | exact edf_Pick.mono _ _
   | exact edf_Valid.mono _ _
   | exact LeO.none _
   | refine LeO.ite ?_ ?_
   | refine LeO.bind ?_ (fun _ => ?_)
def edf_Plan.T21 : Bool × List (List Nat × List Nat) := (true, [([], []), ([], []), ([], []), ([], []), ([2, 3], [2, 3]), ([4], [4]), ([5], [5]), ([], []), ([], []), ([], []), ([8, 9], [8, 9]), ([10], [10]), ([11], [11]), ([7, 12], [7, 12]), ([0, 0, 2, 3, 4, 5, 6, 12], [0]), ([14, 0, 2, 3, 4, 5, 6, 12], [14]), ([15, 6, 0, 2, 3, 4, 5, 6, 12], [6, 15]), ([1, 0, 1, 2, 3, 4, 5, 6, 7, 8, 9, 10, 11, 12, 13, 14, 15, 16], [1]), ([17, 0, 1, 2, 3, 4, 5, 6, 7, 8, 9, 10, 11, 12, 13, 14, 15, 16], [17]), ([18, 13, 16, 0, 1, 2, 3, 4, 5, 6, 7, 8, 9, 10, 11, 12, 13, 14, 15, 16], [13, 18])])
def edf_Plan.B21 : List Nat := [0, 0, 0, 0, 12, 28, 60, 0, 0, 0, 768, 1792, 3840, 8064, 8061, 24445, 57213, 131071, 262143, 524287]
theorem edf_Plan.tab21 : rtab .any (opsOf Try.f12 21) = edf_Plan.T21 := by kernel_rfl
theorem edf_Plan.bits21 : waitsOk edf_Plan.T21.2 edf_Plan.B21 = true := by kernel_rfl
set_option maxHeartbeats 8000000 in
set_option maxRecDepth 100000 in
theorem edf_Plan.calls (k : Nat) (A0 : Option Addr) (c0 : Nat) (l0 : List (S55)) (a1 : Int) (r1 : List Int) (r2 : Option Int) (w : World) (hr0 : Kd.C k55 w A0 l0.length l0) (hc0 : l0.length ≤ c0) (h : edf_Plan.f k l0 a1 = some (r1, r2)) :
  Calls Try.prog 12 #[.slice A0 l0.length c0, .int .i64 a1] w fun e w' => ∃ v0_ : Value, e = .returned (.tuple #[v0_, errW r2]) ∧ Kd.R (Kd.int .i64) 3 w' w.heap.size (fun _ => True) v0_ r1 ∧ Below w.heap.size w w' := by
 have hu55 := Try.underlying55
 have hu59 := Try.underlying59
 have hu25 := Try.underlying25
 have hu66 := Try.underlying66
 have HR0 := Aside0.mk hr0
 have HC0 := Aside0.mk hc0
 clear hr0 hc0
 have HB := Aside0.mk (Below.refl w.heap.size w)
 have H : (if a1 < 0 then (edf_Plan.j0 k l0 a1 true) else (edf_Plan.j0 k l0 a1 (decide (a1 > 4096)))) = some (r1, r2) := h
 clear h
 have HC3 := Aside0.mk H
 clear H
 go_enter Try.func12, Try.ntmps12
 go_upto_region 1 with (fail)
 go_cut [20] (fun v20 wc => ∃ (kq : Nat) (x20_2 : Bool), v20 = .bool x20_2 ∧ Aside0 (edf_Plan.j0 kq l0 a1 x20_2 = some (r1, r2)) ∧ Aside0 (kq ≤ k) ∧ Aside0 (Below w.heap.size w wc))
 case first =>
  have H := HC3.out
  clear HC3
  by_cases c4 : a1 < 0
  ·rw [if_pos c4] at H
   have c4b0 : decide (a1 < 0) = true := decide_eq_true c4
   clear c4
   (first | rw [c4b0] | (simp only [i64_w, i32_w]; rw [c4b0]) | skip)
   have H' := Aside0.mk H
   clear H
   go_wp2
   go_meet
   case rel => exact ⟨_, (true), (by first | rfl | (simp; done) | (simp [*]; done)), H', ⟨by first | omega | exact Nat.le_refl _⟩, ⟨by repeat (first | (with_reducible first | exact HB.out | apply below_alloc | apply pw_below_drewN | apply below_drew1) | exact HB.out)⟩⟩
  ·rw [if_neg c4] at H
   have c4b0 : decide (a1 < 0) = false := decide_eq_false c4
   clear c4
   (first | rw [c4b0] | (simp only [i64_w, i32_w]; rw [c4b0]) | skip)
   have H' := Aside0.mk H
   clear H
   go_wp2
   go_meet
   case rel => exact ⟨_, (decide (a1 > 4096)), (by first | rfl | (simp; done) | (simp [*]; done)), H', ⟨by first | omega | exact Nat.le_refl _⟩, ⟨by repeat (first | (with_reducible first | exact HB.out | apply below_alloc | apply pw_below_drewN | apply below_drew1) | exact HB.out)⟩⟩
 case rest =>
  clear HC3
  try clear c1
  try clear p2
  try clear c4
  try clear c4b0
  obtain ⟨kq, x20_2, rfl, HA, HJ2, HB⟩ := hcut
  cases kq with
  | zero => exact absurd HA.out (by simp [edf_Plan.j0])
  | succ kj2 =>
   have H := HA.out
   clear HA
   simp only [edf_Plan.j0] at H
   by_cases c5 : x20_2 = true
   ·subst c5
    have H1 : (some (([] : List Int), some 1)) = some (r1, r2) := by rw [if_pos rfl] at H; exact H
    clear H
    have H := H1
    clear H1
    simp only [Option.some.injEq, Prod.mk.injEq] at H
    obtain ⟨rfl, rfl⟩ := H
    go_wp2
    go_ret2
    exact ⟨_, by first | rfl | (simp [errW_none, errW_some] <;> rfl) | (simp [*, errW_none, errW_some] <;> rfl), by first | exact Kd.R_nil _ _ _ _ _ | exact Kd.N_nil _ _ _ _ _ | exact Kd.V_nil _ _ _ _ _ | exact Kd.Q_nil _ _ _ _ _ | exact Kd.S_nil _ _ _ _ _, by repeat (first | (with_reducible first | exact HB.out | apply below_alloc | apply pw_below_drewN | apply below_drew1) | exact HB.out)⟩
   ·replace c5 := Bool.eq_false_iff.mpr c5
    subst c5
    have H1 : ((edf_Valid.f kj2 l0).bind fun t124 => (if t124.isNone = true then (if 0 ≤ (l0.length : Int) then (if ((l0.length : Int) : Int).toNat ≤ 11728124029610 then (edf_Plan.l0 kj2 l0 a1 (List.replicate ((l0.length : Int) : Int).toNat z59) l0 (l0.length : Int) 0) else (none)) else (none)) else (some (([] : List Int), some (t124.getD 0))))) = some (r1, r2) := by rw [if_neg (show ¬ (false = true) by decide)] at H; exact H
    clear H
    have H := H1
    clear H1
    replace H := Option.bind_eq_some_iff.mp H
    obtain ⟨t124, A60, H⟩ := H
    replace H : (if t124.isNone = true then (if 0 ≤ (l0.length : Int) then (if ((l0.length : Int) : Int).toNat ≤ 11728124029610 then (edf_Plan.l0 kj2 l0 a1 (List.replicate ((l0.length : Int) : Int).toNat z59) l0 (l0.length : Int) 0) else (none)) else (none)) else (some (([] : List Int), some (t124.getD 0)))) = some (r1, r2) := H
    have A6 := Aside0.mk A60
    clear A60
    rcases t124 with _ | q125
    ·have H1 : (if 0 ≤ (l0.length : Int) then (if ((l0.length : Int) : Int).toNat ≤ 11728124029610 then (edf_Plan.l0 kj2 l0 a1 (List.replicate ((l0.length : Int) : Int).toNat z59) l0 (l0.length : Int) 0) else (none)) else (none)) = some (r1, r2) := by rw [if_pos (show (none : Option Int).isNone = true by rfl)] at H; exact H
     clear H
     have H := H1
     clear H1
     try simp only [errW_none, errW_some]
     by_cases c7 : 0 ≤ (l0.length : Int)
     ·rw [if_pos c7] at H
      have c7b0 := eq_true c7
      have c7b1 : decide (0 ≤ (l0.length : Int)) = true := decide_eq_true c7
      clear c7
      by_cases c8 : ((l0.length : Int) : Int).toNat ≤ 11728124029610
      ·rw [if_pos c8] at H
       have c8b0 := eq_true c8
       have c8b1 : decide (((l0.length : Int) : Int).toNat ≤ 11728124029610) = true := decide_eq_true c8
       clear c8
       obtain ⟨y126, hy126⟩ : ∃ y_ : List (S59), y_ = (List.replicate ((l0.length : Int) : Int).toNat z59) := ⟨_, rfl⟩
       replace H : (edf_Plan.l0 kj2 l0 a1 y126 l0 (l0.length : Int) 0) = some (r1, r2) := by first | (rw [hy126]; with_reducible exact H) | (have H2_ := (Option.bind_some _ _).symm.trans H; rw [hy126]; with_reducible exact H2_) | (have H2_ := (Option.bind_some _ _).symm.trans H; with_reducible exact H2_) | with_reducible exact H | (rw [hy126]; exact H) | exact H
       have Ny126 := Aside0.mk hy126
       clear hy126
       have H' := Aside0.mk H
       clear H
       go_wp2_with (first | ((with_reducible refine gate_callee (f := 17) rfl ?_); refine goesL_ (some 23) rfl rfl Try.func17 (by kernel_rfl) rfl #[.slice A0 l0.length c0] rfl (by (try simp only [List.map_toArray, List.map_cons, List.map_nil]); first | done | rfl | (simp only [List.length_drop, List.length_take]; rfl)) ?_; (with_reducible refine (edf_Valid.calls kj2 _ _ l0 none _ ?side1 ?side2 A6.out).mono ?_); (case side1 => repeat (first | exact (Kd.C_below HR0.out HB.out) | (with_reducible refine Kd.C_alloc ?_ _) | (with_reducible refine Kd.C_drewN ?_ _) | (with_reducible refine Kd.C_drew ?_))); (case side2 => exact HC0.out); rintro e w9 ⟨rfl, hb⟩; refine ⟨_, rfl, ?_⟩; have n0_ := Aside0.mk (below_step (by repeat (first | (with_reducible first | exact HB.out | apply below_alloc | apply pw_below_drewN | apply below_drew1) | exact HB.out)) hb); clear HB; have HB := n0_; clear n0_; (try clear hb); (try clear hb2); (try clear hk); (try clear hi); (try simp only [errW_none, errW_some])) | ((with_reducible refine gate_dst (N := 29) rfl ?_); refine Kd.R_make k59 _ 59 rfl (N := 29) rfl 57 _ _ rfl (l0.length : Int) rfl rfl Try.underlying57 (.agg #[(.int .i64 0), (.int .i64 0), (.int .i64 0)]) 24 info59 rfl (by decide) (by omega) z59 (ok := fun _ => True) (okp := fun _ => True) (k59_mkM _ _ _ z59 ) (fun _ hk => hk) trivial (of_decide_eq_true (by first | (with_reducible assumption) | assumption)) (Nat.le_trans (Nat.mul_le_mul_right _ (of_decide_eq_true (by first | (with_reducible assumption) | assumption) : (l0.length : Int).toNat ≤ 11728124029610)) (by omega)) (Below.refl _ _) (Nat.le_refl _) ?_; intro v127 w10 ho11 hb hg_ hnew_; clear hg_ hnew_; (first | rw [← Ny126.out] at ho11 | (simp only [Int.reduceToNat] at ho11; rw [← Ny126.out] at ho11)); have n0_ := Aside0.mk (Kd.R_lower ho11 (below_size (by repeat (first | (with_reducible first | exact HB.out | apply below_alloc | apply pw_below_drewN | apply below_drew1) | exact HB.out)))); have n1_ := Aside0.mk (below_step (by repeat (first | (with_reducible first | exact HB.out | apply below_alloc | apply pw_below_drewN | apply below_drew1) | exact HB.out)) hb); clear HB; have HO128 := n0_; have HB := n1_; clear n0_ n1_; clear hb ho11))
       go_loopg [32] kj2 (fun kq v32 w' => ∃ (x7_2 : List (S59)) (x32_2 : Int), v32 = .int .i64 x32_2 ∧ Aside0 (edf_Plan.l0 kq l0 a1 x7_2 l0 (l0.length : Int) x32_2 = some (r1, r2)) ∧ Aside0 (kq ≤ kj2) ∧ Aside0 (Kd.R k59 59 w' w.heap.size (fun _ => True) v127 x7_2) ∧ Aside0 (Below w.heap.size w w'))
       case atStart => exact ⟨(y126), (0), (by first | rfl | (simp; done) | (simp [*]; done)), H', ⟨Nat.le_refl _⟩, ⟨by (with_reducible repeat (first | apply Kd.R_alloc | apply Kd.R_drewN | apply Kd.R_drew)); exact HO128.out⟩, ⟨by repeat (first | (with_reducible first | exact HB.out | apply below_alloc | apply pw_below_drewN | apply below_drew1) | exact HB.out)⟩⟩
       case round =>
        clear H'
        try clear c1
        try clear q1
        try clear p2
        try clear c4
        try clear c4b0
        try clear c5
        try clear c7
        try clear c7b0
        try clear c7b1
        try clear c8
        try clear c8b0
        try clear c8b1
        try clear p2
        try clear q125
        obtain ⟨x7_2, x32_2, rfl, HA, HK2, HO_7, HB⟩ := hrel
        cases gk with
        | zero => exact absurd HA.out (by simp [edf_Plan.l0])
        | succ k2 =>
         have H := HA.out
         clear HA
         simp only [edf_Plan.l0] at H
         by_cases c12 : x32_2 < (l0.length : Int)
         ·rw [if_pos c12] at H
          have c12b0 : decide (x32_2 < (l0.length : Int)) = true := decide_eq_true c12
          clear c12
          by_cases c13 : 0 ≤ x32_2
          ·rw [if_pos c13] at H
           have c13b0 : decide (0 ≤ x32_2) = true := decide_eq_true c13
           clear c13
           by_cases c14 : x32_2 < (l0.length : Int)
           ·rw [if_pos c14] at H
            have c14b0 : decide (x32_2 < (l0.length : Int)) = true := decide_eq_true c14
            clear c14
            by_cases c15 : x32_2 < (x7_2.length : Int)
            ·rw [if_pos c15] at H
             have c15b0 : decide (x32_2 < (x7_2.length : Int)) = true := decide_eq_true c15
             clear c15
             obtain ⟨y131, hy131⟩ : ∃ y_ : List (S59), y_ = (x7_2.set (x32_2 : Int).toNat (⟨x32_2, 0, (rd_T55 l0 x32_2).f2⟩ : S59)) := ⟨_, rfl⟩
             replace H : (edf_Plan.l0 k2 l0 a1 y131 l0 (l0.length : Int) (wrap64 (x32_2 + 1))) = some (r1, r2) := by first | (rw [hy131]; with_reducible exact H) | (have H2_ := (Option.bind_some _ _).symm.trans H; rw [hy131]; with_reducible exact H2_) | (have H2_ := (Option.bind_some _ _).symm.trans H; with_reducible exact H2_) | with_reducible exact H | (rw [hy131]; exact H) | exact H
             have Ny131 := Aside0.mk hy131
             clear hy131
             have H' := Aside0.mk H
             clear H
             have p129 : 0 ≤ (x32_2 : Int) := of_decide_eq_true (by first | (with_reducible assumption) | assumption)
             have q129 : x32_2 < (l0.length : Int) := of_decide_eq_true (by first | (with_reducible assumption) | assumption)
             obtain ⟨ad129, e129, hx129_0, hx129_1, hx129_2⟩ := at_T55 HR0.out x32_2 p129 q129
             cases e129
             replace hx129_0 := (HB.out.cell (World.block_lt_of_cell? w _ hx129_0)).trans hx129_0
             replace hx129_1 := (HB.out.cell (World.block_lt_of_cell? w _ hx129_1)).trans hx129_1
             replace hx129_2 := (HB.out.cell (World.block_lt_of_cell? w _ hx129_2)).trans hx129_2
             replace p129 := eq_true p129
             replace q129 := eq_true q129
             go_wp2_with (first | ((with_reducible refine gate_dst (N := 9) rfl ?_); refine box_event ?hg (N := 9) ?hd (cs := #[.int .i64 0, .int .i64 0, .int .i64 0]) (t := 55) ?hr ?_; (case hd => rfl); (case hg => rfl); (case hr => first | (go_simp; done) | (go_simp; rfl)); intro gb130 hg w17 hbox hb; have n0_ := Aside0.mk (Kd.R_below (by (with_reducible repeat (first | apply Kd.R_alloc | apply Kd.R_drewN | apply Kd.R_drew)); exact HO_7.out) hb); have n1_ := Aside0.mk (below_step (by repeat (first | (with_reducible first | exact HB.out | apply below_alloc | apply pw_below_drewN | apply below_drew1) | exact HB.out)) hb); have n2_ := Aside0.mk (hbox); have n3_ := Aside0.mk ((by rw [hg]; exact (below_size (by repeat (first | (with_reducible first | exact HB.out | apply below_alloc | apply pw_below_drewN | apply below_drew1) | exact HB.out))) : w.heap.size ≤ gb130)); have n4_ := Aside0.mk ((by rw [hg]; exact (below_size (by repeat (first | (with_reducible first | exact HB.out | apply below_alloc | apply pw_below_drewN | apply below_drew1) | exact HB.out))) : w.heap.size ≤ gb130)); clear HO_7; clear HB; have HO_7 := n0_; have HB := n1_; have BK130 := n2_; have GW130 := n3_; have GE130 := n4_; clear n0_ n1_ n2_ n3_ n4_; clear hb hbox hg; have hcz18_0 : w17.cell? ⟨gb130, 0, none⟩ = some (.int .i64 0) := (blk_cell BK130.out 0).trans rfl; have hcz18_1 : w17.cell? ⟨gb130, 1, none⟩ = some (.int .i64 0) := (blk_cell BK130.out 1).trans rfl; have hcz18_2 : w17.cell? ⟨gb130, 2, none⟩ = some (.int .i64 0) := (blk_cell BK130.out 2).trans rfl; have hfz18_0 := blk_frozen BK130.out 0; have hfz18_1 := blk_frozen BK130.out 1; have hfz18_2 := blk_frozen BK130.out 2) | ((with_reducible refine gate_store (t := 55) (p := 9) rfl ?_); refine store_event (t := 55) (p := 9) (v := ?vo_w19) (w1 := (((w17.setCell ⟨gb130, 0, none⟩ (.int .i64 ((rd_T55 l0 x32_2).f0))).setCell ⟨gb130, 1, none⟩ (.int .i64 ((rd_T55 l0 x32_2).f1))).setCell ⟨gb130, 2, none⟩ (.int .i64 ((rd_T55 l0 x32_2).f2)))) ?hg ?ho ?hn ?hr ?_; (case ho => rfl); (case hg => rfl); (case hn => rfl); (case hr => first | (go_simp; done) | (go_simp; rfl)); intro w19 hw; have n0_ : Aside0 (Kd.R k59 59 w19 w.heap.size (fun _ => True) v127 x7_2) := ⟨(by rw [hw]; exact (by (with_reducible repeat (first | apply Kd.R_alloc | apply Kd.R_drewN | apply Kd.R_drew)); exact Kd.R_mono (Kd.R_far (p := ⟨gb130, 2, none⟩) (Kd.R_far (p := ⟨gb130, 1, none⟩) (Kd.R_far (p := ⟨gb130, 0, none⟩) (Kd.R_types HO_7.out BK130.out (by decide)) (fun _ hk => hk.2) (.int .i64 ((rd_T55 l0 x32_2).f0))) (fun _ hk => hk.2) (.int .i64 ((rd_T55 l0 x32_2).f1))) (fun _ hk => hk.2) (.int .i64 ((rd_T55 l0 x32_2).f2))) (fun _ hk => trivial)))⟩; have n1_ : Aside0 (w19.heap[gb130]? = some (.cells #[.int .i64 ((rd_T55 l0 x32_2).f0), .int .i64 ((rd_T55 l0 x32_2).f1), .int .i64 ((rd_T55 l0 x32_2).f2)] 55 (0, 0))) := ⟨(by rw [hw]; exact (by (with_reducible repeat (first | refine blk_drewN ?_ _ | refine blk_drew ?_ | refine blk_alloc ?_ _)); refine blk_put (cs := #[.int .i64 ((rd_T55 l0 x32_2).f0), .int .i64 ((rd_T55 l0 x32_2).f1), .int .i64 0]) ?_ 2 _ rfl; (with_reducible repeat (first | refine blk_drewN ?_ _ | refine blk_drew ?_ | refine blk_alloc ?_ _)); refine blk_put (cs := #[.int .i64 ((rd_T55 l0 x32_2).f0), .int .i64 0, .int .i64 0]) ?_ 1 _ rfl; (with_reducible repeat (first | refine blk_drewN ?_ _ | refine blk_drew ?_ | refine blk_alloc ?_ _)); refine blk_put (cs := #[.int .i64 0, .int .i64 0, .int .i64 0]) ?_ 0 _ rfl; (with_reducible repeat (first | refine blk_drewN ?_ _ | refine blk_drew ?_ | refine blk_alloc ?_ _)); exact BK130.out))⟩; have n2_ : Aside0 (Below w.heap.size w w19) := ⟨(by rw [hw]; exact (by repeat (first | (with_reducible first | exact HB.out | apply below_alloc | apply pw_below_drewN | apply below_drew1 | refine below_set ?_ GE130.out) | exact HB.out)))⟩; clear hw; clear HO_7; clear BK130; clear HB; have HO_7 := n0_; have BK130 := n1_; have HB := n2_; clear n0_ n1_ n2_; have hcz20_0 : w19.cell? ⟨gb130, 0, none⟩ = some (.int .i64 ((rd_T55 l0 x32_2).f0)) := (blk_cell BK130.out 0).trans rfl; have hcz20_1 : w19.cell? ⟨gb130, 1, none⟩ = some (.int .i64 ((rd_T55 l0 x32_2).f1)) := (blk_cell BK130.out 1).trans rfl; have hcz20_2 : w19.cell? ⟨gb130, 2, none⟩ = some (.int .i64 ((rd_T55 l0 x32_2).f2)) := (blk_cell BK130.out 2).trans rfl; have hfz20_0 := blk_frozen BK130.out 0; have hfz20_1 := blk_frozen BK130.out 1; have hfz20_2 := blk_frozen BK130.out 2; have p16 : 0 ≤ (x32_2 : Int) := of_decide_eq_true (by first | (with_reducible assumption) | assumption); have q16 : (x32_2 : Int) < ((x7_2.length : Int) : Int) := of_decide_eq_true (by first | (with_reducible assumption) | assumption); obtain ⟨go16, co16, eo16, gb16, gl16, cl16, HG16⟩ := Kd.R_form HO_7.out (by omega); (first | cases eo16 | (injection eo16 with ea_ en_ ec_; (first | subst ea_ | (injection ea_ with ea_; subst ea_)); subst ec_; clear en_)); have GB16 := Aside0.mk gb16; have GG16 := Aside0.mk HG16; clear gb16 gl16 HG16; obtain ⟨ce16, hcl16, hM16, hcc16, hfr16⟩ := Kd.R_elem HO_7.out z59 (x32_2 : Int) p16 q16; obtain rfl := k59_openM hM16; have hx16_0 : w19.cell? ⟨go16, (x32_2 : Int).toNat * 3, none⟩ = some (.int .i64 ((rd_T59 x7_2 x32_2).f0)) := hcc16 0 _ rfl; have hx16_1 : w19.cell? ⟨go16, (x32_2 : Int).toNat * 3 + 1, none⟩ = some (.int .i64 ((rd_T59 x7_2 x32_2).f1)) := hcc16 1 _ rfl; have hx16_2 : w19.cell? ⟨go16, (x32_2 : Int).toNat * 3 + 2, none⟩ = some (.int .i64 ((rd_T59 x7_2 x32_2).f2)) := hcc16 2 _ rfl; have hf16_0 : w19.frozen? ⟨go16, (x32_2 : Int).toNat * 3, none⟩ = false := hfr16 0; have hf16_1 : w19.frozen? ⟨go16, (x32_2 : Int).toNat * 3 + 1, none⟩ = false := hfr16 1; have hf16_2 : w19.frozen? ⟨go16, (x32_2 : Int).toNat * 3 + 2, none⟩ = false := hfr16 2; clear hcl16 hcc16 hfr16 hM16; replace p16 := eq_true p16; replace q16 := eq_true q16; have HX21 := Aside0.mk (show Kd.R k59 59 w19 w.heap.size (fun _ => True) (.slice (some ⟨go16, 0, none⟩) x7_2.length co16) x7_2 from (by (with_reducible repeat (first | apply Kd.R_alloc | apply Kd.R_drewN | apply Kd.R_drew)); exact HO_7.out)); obtain ⟨ce21, hcl21, hM21, hcc21, hfr21⟩ := Kd.R_elem HX21.out z59 (x32_2 : Int) (of_decide_eq_true (by first | (with_reducible assumption) | assumption)) (by have h_ : (x32_2 : Int) < ((x7_2.length : Int) : Int) := of_decide_eq_true (by first | (with_reducible assumption) | assumption); first | exact h_ | (have e_ := (Kd.R_reads' HO_7.out).1; omega) | (simp; done) | simpa using h_); obtain rfl := k59_openM hM21; have HP21 := Kd.R_seg HX21.out (x32_2 : Int) (of_decide_eq_true (by first | (with_reducible assumption) | assumption)) (by have h_ : (x32_2 : Int) < ((x7_2.length : Int) : Int) := of_decide_eq_true (by first | (with_reducible assumption) | assumption); first | exact h_ | (have e_ := (Kd.R_reads' HO_7.out).1; omega) | (simp; done) | simpa using h_) (seg := [.int .i64 x32_2, .int .i64 0, .int .i64 ((rd_T55 l0 x32_2).f2)]) (j := 0) hcl21 hcc21 (show 3 ≤ 3 from by decide) (x' := (⟨x32_2, 0, (rd_T55 l0 x32_2).f2⟩ : S59)) (k59_mkM _ _ _ (⟨x32_2, 0, (rd_T55 l0 x32_2).f2⟩ : S59) ) (fun _ hk => hk); have hx21_0 := hcc21 0 _ rfl; (try simp only [show (k59).sz = 3 from rfl, Nat.mul_one, Nat.add_zero] at hx21_0); have hf21_0 := hfr21 0; (try simp only [show (k59).sz = 3 from rfl, Nat.mul_one, Nat.add_zero] at hf21_0); have hx21_1 := hcc21 1 _ rfl; (try simp only [show (k59).sz = 3 from rfl, Nat.mul_one, Nat.add_zero] at hx21_1); have hf21_1 := hfr21 1; (try simp only [show (k59).sz = 3 from rfl, Nat.mul_one, Nat.add_zero] at hf21_1); have hx21_2 := hcc21 2 _ rfl; (try simp only [show (k59).sz = 3 from rfl, Nat.mul_one, Nat.add_zero] at hx21_2); have hf21_2 := hfr21 2; (try simp only [show (k59).sz = 3 from rfl, Nat.mul_one, Nat.add_zero] at hf21_2); clear hcl21 hcc21 hfr21 hM21) | ((with_reducible refine gate_store (t := 59) (p := 43) rfl ?_); refine store_event (t := 59) (p := 43) (v := ?vo_w22) (w1 := (((w19.setCell ⟨go16, (x32_2 : Int).toNat * 3, none⟩ (.int .i64 x32_2)).setCell ⟨go16, (x32_2 : Int).toNat * 3 + 1, none⟩ (.int .i64 0)).setCell ⟨go16, (x32_2 : Int).toNat * 3 + 2, none⟩ (.int .i64 ((rd_T55 l0 x32_2).f2)))) ?hg ?ho ?hn ?hr ?_; (case ho => rfl); (case hg => rfl); (case hn => rfl); (case hr => first | (go_simp; done) | (go_simp; rfl)); intro w22 hw; have hg : w19.grownBy w22 (some go16) := (by rw [hw]; exact HP21.2); have hp_ : Kd.R k59 59 w22 w.heap.size (fun _ => True) (.slice (some ⟨go16, 0, none⟩) x7_2.length co16) y131 := (by rw [hw, Ny131.out]; exact HP21.1); clear HP21; have n0_ := Aside0.mk (hp_); have n1_ := Aside0.mk (blk_grown (g := gb130) (o := .cells #[.int .i64 ((rd_T55 l0 x32_2).f0), .int .i64 ((rd_T55 l0 x32_2).f1), .int .i64 ((rd_T55 l0 x32_2).f2)] 55 (0, 0)) (by (with_reducible repeat (first | refine blk_drewN ?_ _ | refine blk_drew ?_ | refine blk_alloc ?_ _)); exact BK130.out) hg (Kd.R_ne HO_7.out BK130.out (by decide))); have n2_ := Aside0.mk ((by rw [hw]; exact below_set (below_set (below_set (HB.out) GB16.out) GB16.out) GB16.out : Below w.heap.size w w22)); clear HO_7; clear BK130; clear HB; have HO_7 := n0_; have BK130 := n1_; have HB := n2_; clear n0_ n1_ n2_; clear hg hw hp_))
             go_roundg k2
             case measure => have := HJ2.out; have := HK2.out; omega
             case rel => exact ⟨(y131), (wrap64 (x32_2 + 1)), (by first | rfl | (simp; done) | (simp [*]; done)), H', ⟨by have := HJ2.out; have := HK2.out; omega⟩, ⟨by (with_reducible repeat (first | apply Kd.R_alloc | apply Kd.R_drewN | apply Kd.R_drew)); exact HO_7.out⟩, ⟨by repeat (first | (with_reducible first | exact HB.out | apply below_alloc | apply pw_below_drewN | apply below_drew1 | refine below_set ?_ GE130.out) | exact HB.out)⟩⟩
            ·rw [if_neg c15] at H
             exact absurd H (by simp)
           ·rw [if_neg c14] at H
            exact absurd H (by simp)
          ·rw [if_neg c13] at H
           exact absurd H (by simp)
         ·rw [if_neg c12] at H
          have c12b0 : decide (x32_2 < (l0.length : Int)) = false := decide_eq_false c12
          clear c12
          have H' := Aside0.mk H
          clear H
          go_wp2
          go_loopg [10, 46] k2 (fun kq v10 v46 w' => ∃ (x7_3 : List (S59)) (x10_3 : List Int) (x46_3 : Int), v46 = .int .i64 x46_3 ∧ Aside0 (edf_Plan.l1 kq l0 x7_3 x10_3 a1 x46_3 = some (r1, r2)) ∧ Aside0 (kq ≤ k2) ∧ Aside0 (Kd.R k59 59 w' w.heap.size (fun _ => True) v127 x7_3) ∧ Aside0 (Kd.R (Kd.int .i64) 3 w' w.heap.size (fun _ => True) v10 x10_3) ∧ Aside0 (Below w.heap.size w w'))
          case atStart => exact ⟨(x7_2), (([] : List Int)), (0), (by first | rfl | (simp; done) | (simp [*]; done)), H', ⟨Nat.le_refl _⟩, ⟨by (with_reducible repeat (first | apply Kd.R_alloc | apply Kd.R_drewN | apply Kd.R_drew)); exact HO_7.out⟩, ⟨by first | exact Kd.R_nil _ _ _ _ _ | exact Kd.N_nil _ _ _ _ _ | exact Kd.V_nil _ _ _ _ _ | exact Kd.Q_nil _ _ _ _ _ | exact Kd.S_nil _ _ _ _ _⟩, ⟨by repeat (first | (with_reducible first | exact HB.out | apply below_alloc | apply pw_below_drewN | apply below_drew1) | exact HB.out)⟩⟩
          case round =>
           clear H'
           try clear c1
           try clear p1
           try clear q1
           try clear hx1
           try clear c2
           try clear p2
           try clear hx2
           try clear hf2
           try clear c4
           try clear c4b0
           try clear c5
           try clear p6
           try clear c7
           try clear c7b0
           try clear c7b1
           try clear c8
           try clear c8b0
           try clear c8b1
           try clear c12
           try clear c12b0
           try clear p12
           try clear q12
           try clear hx12
           try clear c13
           try clear c13b0
           try clear c14
           try clear c14b0
           try clear c15
           try clear c15b0
           try clear c16
           try clear p16
           try clear q16
           try clear hx16
           try clear hf16
           try clear c17
           try clear c21
           try clear hx21
           try clear hf21
           try clear hcz18_0
           try clear hcz18_1
           try clear hcz18_2
           try clear hcz20_0
           try clear hcz20_1
           try clear hcz20_2
           try clear hfz18_0
           try clear hfz18_1
           try clear hfz18_2
           try clear hfz20_0
           try clear hfz20_1
           try clear hfz20_2
           try clear hx129_0
           try clear hx129_1
           try clear hx129_2
           try clear hx16_0
           try clear hx16_1
           try clear hx16_2
           try clear hx21_0
           try clear hx21_1
           try clear hx21_2
           try clear p129
           try clear p16
           try clear p2
           try clear q1
           try clear q125
           try clear q129
           try clear q16
           obtain ⟨x7_3, x10_3, x46_3, rfl, HA, HK3, HO_7, HO_10, HB⟩ := hrel
           cases gk with
           | zero => exact absurd HA.out (by simp [edf_Plan.l1])
           | succ k3 =>
            have H := HA.out
            clear HA
            simp only [edf_Plan.l1] at H
            by_cases c23 : x46_3 < a1
            ·rw [if_pos c23] at H
             have c23b0 : decide (x46_3 < a1) = true := decide_eq_true c23
             clear c23
             have H' := Aside0.mk H
             clear H
             obtain ⟨Ao24, co24, eo24⟩ := Kd.R_slice HO_7.out
             subst eo24
             go_wp2
             go_loopg [51] k3 (fun kq v51 w' => ∃ (x7_4 : List (S59)) (x51_4 : Int), v51 = .int .i64 x51_4 ∧ Aside0 (edf_Plan.l2 kq l0 x7_4 x10_3 x46_3 a1 x46_3 (x7_3.length : Int) x51_4 = some (r1, r2)) ∧ Aside0 (kq ≤ k3) ∧ Aside0 (Kd.R k59 59 w' w.heap.size (fun _ => True) (.slice Ao24 x7_3.length co24) x7_4) ∧ Aside0 (Kd.R (Kd.int .i64) 3 w' w.heap.size (fun _ => True) u10 x10_3) ∧ Aside0 (Below w.heap.size w w'))
             case atStart => exact ⟨(x7_3), (0), (by first | rfl | (simp; done) | (simp [*]; done)), H', ⟨Nat.le_refl _⟩, ⟨by (with_reducible repeat (first | apply Kd.R_alloc | apply Kd.R_drewN | apply Kd.R_drew)); exact HO_7.out⟩, ⟨by (with_reducible repeat (first | apply Kd.R_alloc | apply Kd.R_drewN | apply Kd.R_drew)); exact HO_10.out⟩, ⟨by repeat (first | (with_reducible first | exact HB.out | apply below_alloc | apply pw_below_drewN | apply below_drew1) | exact HB.out)⟩⟩
             case round =>
              clear H'
              try clear c1
              try clear p1
              try clear q1
              try clear hx1
              try clear c2
              try clear p2
              try clear hx2
              try clear hf2
              try clear c4
              try clear c4b0
              try clear c5
              try clear p6
              try clear c7
              try clear c7b0
              try clear c7b1
              try clear c8
              try clear c8b0
              try clear c8b1
              try clear c12
              try clear c12b0
              try clear p12
              try clear q12
              try clear hx12
              try clear c13
              try clear c13b0
              try clear c14
              try clear c14b0
              try clear c15
              try clear c15b0
              try clear c16
              try clear p16
              try clear q16
              try clear hx16
              try clear hf16
              try clear c17
              try clear c21
              try clear hx21
              try clear hf21
              try clear c23
              try clear c23b0
              try clear hcz18_0
              try clear hcz18_1
              try clear hcz18_2
              try clear hcz20_0
              try clear hcz20_1
              try clear hcz20_2
              try clear hfz18_0
              try clear hfz18_1
              try clear hfz18_2
              try clear hfz20_0
              try clear hfz20_1
              try clear hfz20_2
              try clear hx129_0
              try clear hx129_1
              try clear hx129_2
              try clear hx16_0
              try clear hx16_1
              try clear hx16_2
              try clear hx21_0
              try clear hx21_1
              try clear hx21_2
              try clear p1
              try clear p12
              try clear p129
              try clear p16
              try clear p2
              try clear p6
              try clear q1
              try clear q12
              try clear q125
              try clear q129
              try clear q16
              obtain ⟨x7_4, x51_4, rfl, HA, HK4, HO_7, HO_10, HB⟩ := hrel
              have hl7_4 := (Kd.R_reads' HO_7.out).1
              rw [hl7_4] at HO_7
              (try simp only [hl7_4])
              (try simp only [hl7_4] at HO_10)
              cases gk with
              | zero => exact absurd HA.out (by simp [edf_Plan.l2])
              | succ k4 =>
               have H := HA.out
               clear HA
               simp only [edf_Plan.l2] at H
               by_cases c25 : x51_4 < (x7_3.length : Int)
               ·rw [if_pos c25] at H
                have c25b0 : decide (x51_4 < (x7_3.length : Int)) = true := decide_eq_true c25
                (try (have c25b7_0 := c25b0; rw [hl7_4] at c25b7_0))
                clear c25
                by_cases c26 : 0 ≤ x51_4
                ·rw [if_pos c26] at H
                 have c26b0 : decide (0 ≤ x51_4) = true := decide_eq_true c26
                 clear c26
                 by_cases c27 : x51_4 < (x7_4.length : Int)
                 ·rw [if_pos c27] at H
                  have c27b0 : decide (x51_4 < (x7_4.length : Int)) = true := decide_eq_true c27
                  (try (have c27b7_0 := c27b0; rw [hl7_4] at c27b7_0))
                  clear c27
                  by_cases c28 : ((rd_T59 x7_4 x51_4).f2) = x46_3
                  ·rw [if_pos c28] at H
                   have c28b0 : (((rd_T59 x7_4 x51_4).f2) == x46_3) = true := beq_iff_eq.mpr c28
                   have c28b1 : (((rd_T59 x7_4 x51_4).f2) != x46_3) = false := bne_eq_false_iff_eq.mpr c28
                   clear c28
                   by_cases c31 : x51_4 < (l0.length : Int)
                   ·rw [if_pos c31] at H
                    have c31b0 : decide (x51_4 < (l0.length : Int)) = true := decide_eq_true c31
                    (try (have c31b7_0 := c31b0; rw [hl7_4] at c31b7_0))
                    clear c31
                    obtain ⟨y135, hy135⟩ : ∃ y_ : List (S59), y_ = (x7_4.set (x51_4 : Int).toNat (⟨(rd_T59 x7_4 x51_4).f0, (rd_T55 l0 x51_4).f0, (rd_T59 x7_4 x51_4).f2⟩ : S59)) := ⟨_, rfl⟩
                    replace H : (edf_Plan.l2 k4 l0 (y135.set (x51_4 : Int).toNat (⟨(rd_T59 y135 x51_4).f0, (rd_T59 y135 x51_4).f1, wrap64 (x46_3 + ((rd_T55 l0 x51_4).f1))⟩ : S59)) x10_3 x46_3 a1 x46_3 (x7_3.length : Int) (wrap64 (x51_4 + 1))) = some (r1, r2) := by first | (rw [hy135]; with_reducible exact H) | (have H2_ := (Option.bind_some _ _).symm.trans H; rw [hy135]; with_reducible exact H2_) | (have H2_ := (Option.bind_some _ _).symm.trans H; with_reducible exact H2_) | with_reducible exact H | (rw [hy135]; exact H) | exact H
                    have Ny135 := Aside0.mk hy135
                    clear hy135
                    obtain ⟨y136, hy136⟩ : ∃ y_ : List (S59), y_ = (y135.set (x51_4 : Int).toNat (⟨(rd_T59 y135 x51_4).f0, (rd_T59 y135 x51_4).f1, wrap64 (x46_3 + ((rd_T55 l0 x51_4).f1))⟩ : S59)) := ⟨_, rfl⟩
                    replace H : (edf_Plan.l2 k4 l0 y136 x10_3 x46_3 a1 x46_3 (x7_3.length : Int) (wrap64 (x51_4 + 1))) = some (r1, r2) := by first | (rw [hy136]; with_reducible exact H) | (have H2_ := (Option.bind_some _ _).symm.trans H; rw [hy136]; with_reducible exact H2_) | (have H2_ := (Option.bind_some _ _).symm.trans H; with_reducible exact H2_) | with_reducible exact H | (rw [hy136]; exact H) | exact H
                    have Ny136 := Aside0.mk hy136
                    clear hy136
                    have H' := Aside0.mk H
                    clear H
                    have p132 : 0 ≤ (x51_4 : Int) := of_decide_eq_true (by first | (with_reducible assumption) | assumption)
                    have q132 : x51_4 < (x7_4.length : Int) := of_decide_eq_true (by first | (with_reducible assumption) | assumption)
                    obtain ⟨ad132, e132, hx132_0, hx132_1, hx132_2⟩ := at_T59 (Kd.R_reads' HO_7.out).2.2 x51_4 p132 q132
                    cases e132
                    replace p132 := eq_true p132
                    replace q132 := eq_true q132
                    try go_wp2
                    have n0_ := Aside0.mk (Kd.R_drew HO_7.out)
                    have n1_ := Aside0.mk (Kd.R_drew HO_10.out)
                    have n2_ := Aside0.mk (below_drew1 HB.out)
                    clear HO_7
                    clear HO_10
                    clear HB
                    have HO_7 := n0_
                    have HO_10 := n1_
                    have HB := n2_
                    clear n0_ n1_ n2_
                    have p29 : 0 ≤ (x51_4 : Int) := of_decide_eq_true (by first | (with_reducible assumption) | assumption)
                    have q29 : (x51_4 : Int) < ((x7_4.length : Int) : Int) := of_decide_eq_true (by first | (with_reducible assumption) | assumption)
                    obtain ⟨go29, co29, eo29, gb29, gl29, cl29, HG29⟩ := Kd.R_form HO_7.out (by omega)
                    (first | cases eo29 | (injection eo29 with ea_ en_ ec_; (first | subst ea_ | (injection ea_ with ea_; subst ea_)); subst ec_; clear en_))
                    have GB29 := Aside0.mk gb29
                    have GG29 := Aside0.mk HG29
                    clear gb29 gl29 HG29
                    (first | simp only [add_plain] at hx132_0 | skip)
                    (first | simp only [add_plain] at hx132_1 | skip)
                    (first | simp only [add_plain] at hx132_2 | skip)
                    obtain ⟨ce29, hcl29, hM29, hcc29, hfr29⟩ := Kd.R_elem HO_7.out z59 (x51_4 : Int) p29 q29
                    obtain rfl := k59_openM hM29
                    have hx29_0 : World.cell? _ ⟨go29, (x51_4 : Int).toNat * 3, none⟩ = some (.int .i64 ((rd_T59 x7_4 x51_4).f0)) := hcc29 0 _ rfl
                    have hx29_1 : World.cell? _ ⟨go29, (x51_4 : Int).toNat * 3 + 1, none⟩ = some (.int .i64 ((rd_T59 x7_4 x51_4).f1)) := hcc29 1 _ rfl
                    have hx29_2 : World.cell? _ ⟨go29, (x51_4 : Int).toNat * 3 + 2, none⟩ = some (.int .i64 ((rd_T59 x7_4 x51_4).f2)) := hcc29 2 _ rfl
                    have hf29_0 : World.frozen? _ ⟨go29, (x51_4 : Int).toNat * 3, none⟩ = false := hfr29 0
                    have hf29_1 : World.frozen? _ ⟨go29, (x51_4 : Int).toNat * 3 + 1, none⟩ = false := hfr29 1
                    have hf29_2 : World.frozen? _ ⟨go29, (x51_4 : Int).toNat * 3 + 2, none⟩ = false := hfr29 2
                    clear hcl29 hcc29 hfr29 hM29
                    replace p29 := eq_true p29
                    replace q29 := eq_true q29
                    have p30 : 0 ≤ (x51_4 : Int) := of_decide_eq_true (by first | (with_reducible assumption) | assumption)
                    have q30 : (x51_4 : Int) < ((x7_4.length : Int) : Int) := of_decide_eq_true (by first | (with_reducible assumption) | assumption)
                    obtain ⟨ce30, hcl30, hM30, hcc30, hfr30⟩ := Kd.R_elem HO_7.out z59 (x51_4 : Int) p30 q30
                    obtain rfl := k59_openM hM30
                    have hx30_0 : World.cell? _ ⟨go29, (x51_4 : Int).toNat * 3, none⟩ = some (.int .i64 ((rd_T59 x7_4 x51_4).f0)) := hcc30 0 _ rfl
                    have hx30_1 : World.cell? _ ⟨go29, (x51_4 : Int).toNat * 3 + 1, none⟩ = some (.int .i64 ((rd_T59 x7_4 x51_4).f1)) := hcc30 1 _ rfl
                    have hx30_2 : World.cell? _ ⟨go29, (x51_4 : Int).toNat * 3 + 2, none⟩ = some (.int .i64 ((rd_T59 x7_4 x51_4).f2)) := hcc30 2 _ rfl
                    have hf30_0 : World.frozen? _ ⟨go29, (x51_4 : Int).toNat * 3, none⟩ = false := hfr30 0
                    have hf30_1 : World.frozen? _ ⟨go29, (x51_4 : Int).toNat * 3 + 1, none⟩ = false := hfr30 1
                    have hf30_2 : World.frozen? _ ⟨go29, (x51_4 : Int).toNat * 3 + 2, none⟩ = false := hfr30 2
                    clear hcl30 hcc30 hfr30 hM30
                    replace p30 := eq_true p30
                    replace q30 := eq_true q30
                    have p133 : 0 ≤ (x51_4 : Int) := of_decide_eq_true (by first | (with_reducible assumption) | assumption)
                    have q133 : x51_4 < (l0.length : Int) := of_decide_eq_true (by first | (with_reducible assumption) | assumption)
                    obtain ⟨ad133, e133, hx133_0, hx133_1, hx133_2⟩ := at_T55 HR0.out x51_4 p133 q133
                    have hw133_2 := hx133_2
                    have hw133_1 := hx133_1
                    have hw133_0 := hx133_0
                    cases e133
                    replace hx133_0 := (HB.out.cell (World.block_lt_of_cell? w _ hx133_0)).trans hx133_0
                    replace hx133_1 := (HB.out.cell (World.block_lt_of_cell? w _ hx133_1)).trans hx133_1
                    replace hx133_2 := (HB.out.cell (World.block_lt_of_cell? w _ hx133_2)).trans hx133_2
                    replace p133 := eq_true p133
                    replace q133 := eq_true q133
                    have p134 : 0 ≤ (x51_4 : Int) := of_decide_eq_true (by first | (with_reducible assumption) | assumption)
                    have q134 : x51_4 < (l0.length : Int) := of_decide_eq_true (by first | (with_reducible assumption) | assumption)
                    obtain ⟨ad134, e134, hx134_0, hx134_1, hx134_2⟩ := at_T55 HR0.out x51_4 p134 q134
                    have hw134_2 := hx134_2
                    have hw134_1 := hx134_1
                    have hw134_0 := hx134_0
                    obtain rfl : ad133 = ad134 := (by injection e134)
                    replace hx134_0 := (HB.out.cell (World.block_lt_of_cell? w _ hx134_0)).trans hx134_0
                    replace hx134_1 := (HB.out.cell (World.block_lt_of_cell? w _ hx134_1)).trans hx134_1
                    replace hx134_2 := (HB.out.cell (World.block_lt_of_cell? w _ hx134_2)).trans hx134_2
                    replace p134 := eq_true p134
                    replace q134 := eq_true q134
                    obtain ⟨ce33, hcl33, hM33, hcc33, hfr33⟩ := Kd.R_elem HO_7.out z59 (x51_4 : Int) (of_decide_eq_true (by first | (with_reducible assumption) | assumption)) (by have h_ : (x51_4 : Int) < ((x7_4.length : Int) : Int) := of_decide_eq_true (by first | (with_reducible assumption) | assumption); first | exact h_ | (have e_ := (Kd.R_reads' HO_7.out).1; omega) | (simp; done) | simpa using h_)
                    obtain rfl := k59_openM hM33
                    have HP33 := (Kd.R_seg HO_7.out (x51_4 : Int) (of_decide_eq_true (by first | (with_reducible assumption) | assumption)) (by have h_ : (x51_4 : Int) < ((x7_4.length : Int) : Int) := of_decide_eq_true (by first | (with_reducible assumption) | assumption); first | exact h_ | (have e_ := (Kd.R_reads' HO_7.out).1; omega) | (simp; done) | simpa using h_) (seg := [.int .i64 ((rd_T55 l0 x51_4).f0)]) (j := 1) hcl33 hcc33 (show 2 ≤ 3 from by decide) (x' := (⟨(rd_T59 x7_4 x51_4).f0, (rd_T55 l0 x51_4).f0, (rd_T59 x7_4 x51_4).f2⟩ : S59)) (k59_mkM _ _ _ (⟨(rd_T59 x7_4 x51_4).f0, (rd_T55 l0 x51_4).f0, (rd_T59 x7_4 x51_4).f2⟩ : S59) ) (fun _ hk => hk)).1
                    rw [← Ny135.out] at HP33
                    have HQ33 := Aside0.mk HP33
                    clear hcl33 hcc33 hfr33 hM33 HP33
                    obtain ⟨ce34, hcl34, hM34, hcc34, hfr34⟩ := Kd.R_elem HQ33.out z59 (x51_4 : Int) (of_decide_eq_true (by first | (with_reducible assumption) | assumption)) (by have h_ : (x51_4 : Int) < ((x7_4.length : Int) : Int) := of_decide_eq_true (by first | (with_reducible assumption) | assumption); first | exact h_ | (have e_ := (Kd.R_reads' HO_7.out).1; omega) | (simp; done) | simpa using h_)
                    obtain rfl := k59_openM hM34
                    have HP34 := (Kd.R_seg HQ33.out (x51_4 : Int) (of_decide_eq_true (by first | (with_reducible assumption) | assumption)) (by have h_ : (x51_4 : Int) < ((x7_4.length : Int) : Int) := of_decide_eq_true (by first | (with_reducible assumption) | assumption); first | exact h_ | (have e_ := (Kd.R_reads' HO_7.out).1; omega) | (simp; done) | simpa using h_) (seg := [.int .i64 (wrap64 (x46_3 + ((rd_T55 l0 x51_4).f1)))]) (j := 2) hcl34 hcc34 (show 3 ≤ 3 from by decide) (x' := (⟨(rd_T59 y135 x51_4).f0, (rd_T59 y135 x51_4).f1, wrap64 (x46_3 + ((rd_T55 l0 x51_4).f1))⟩ : S59)) (k59_mkM _ _ _ (⟨(rd_T59 y135 x51_4).f0, (rd_T59 y135 x51_4).f1, wrap64 (x46_3 + ((rd_T55 l0 x51_4).f1))⟩ : S59) ) (fun _ hk => hk)).1
                    rw [← Ny136.out] at HP34
                    have HQ34 := Aside0.mk HP34
                    clear hcl34 hcc34 hfr34 hM34 HP34
                    refine start_ (n := 20) (S := fun w' => w'.cell? (ad133.add ((x51_4).toNat * 3)) = some (.int .i64 ((rd_T55 l0 x51_4).f0)) ∧ w'.cell? ⟨(ad133.add ((x51_4).toNat * 3)).block, (ad133.add ((x51_4).toNat * 3)).off + 1, none⟩ = some (.int .i64 ((rd_T55 l0 x51_4).f1)) ∧ w'.cell? ⟨(ad133.add ((x51_4).toNat * 3)).block, (ad133.add ((x51_4).toNat * 3)).off + 2, none⟩ = some (.int .i64 ((rd_T55 l0 x51_4).f2)) ∧ w'.cell? (ad133.add ((x51_4).toNat * 3)) = some (.int .i64 ((rd_T55 l0 x51_4).f0)) ∧ w'.cell? ⟨(ad133.add ((x51_4).toNat * 3)).block, (ad133.add ((x51_4).toNat * 3)).off + 1, none⟩ = some (.int .i64 ((rd_T55 l0 x51_4).f1)) ∧ w'.cell? ⟨(ad133.add ((x51_4).toNat * 3)).block, (ad133.add ((x51_4).toNat * 3)).off + 2, none⟩ = some (.int .i64 ((rd_T55 l0 x51_4).f2))) (ds := [16, 19]) #[false, false, false, false, false, false, false, false, false, false, false, false, false, false, false, false, false, false, false, false] (by kernel_rfl) rfl rfl ⟨((HB.out.cell (World.block_lt_of_cell? w _ hw133_0)).trans hw133_0), ((HB.out.cell (World.block_lt_of_cell? w _ hw133_1)).trans hw133_1), ((HB.out.cell (World.block_lt_of_cell? w _ hw133_2)).trans hw133_2), ((HB.out.cell (World.block_lt_of_cell? w _ hw134_0)).trans hw134_0), ((HB.out.cell (World.block_lt_of_cell? w _ hw134_1)).trans hw134_1), ((HB.out.cell (World.block_lt_of_cell? w _ hw134_2)).trans hw134_2)⟩ (fun hHeld => ?_); refine with_tabW edf_Plan.tab21 edf_Plan.bits21 (fun HT_ HW_ => ?_)
                    generalize wr.drew = w32 at HO_7 HO_10 HB GG29 HQ33 HQ34 hf29_0 hf29_1 hf29_2 hf30_0 hf30_1 hf30_2 hx132_0 hx132_1 hx132_2 hx133_0 hx133_1 hx133_2 hx134_0 hx134_1 hx134_2 hx29_0 hx29_1 hx29_2 hx30_0 hx30_1 hx30_2 hHeld ⊢
                    refine pure_ (i := 0) (N := some 63) (v := ?_) (a' := ?_) #[true, false, false, false, false, false, false, false, false, false, false, false, false, false, false, false, false, false, false, false] rfl rfl (any_of HT_.out (by kernel_rfl)) (fun _ _ _ h => h) (Or.inl ⟨by rfl, ?_⟩) ?_ ?_
                    rotate_left
                    ·intro w'
                     go_simp
                     with_reducible rfl
                    rotate_left
                    ·simp only [Act.put, List.setIfInBounds_toArray, List.set_cons_zero, List.set_cons_succ, i64_w, i32_w]
                     rfl
                    refine pure_ (i := 1) (N := some 64) (v := ?_) (a' := ?_) #[true, true, false, false, false, false, false, false, false, false, false, false, false, false, false, false, false, false, false, false] rfl rfl (any_of HT_.out (by kernel_rfl)) (fun _ _ _ h => h) (Or.inl ⟨by rfl, ?_⟩) ?_ ?_
                    rotate_left
                    ·intro w'
                     go_simp
                     with_reducible rfl
                    rotate_left
                    ·simp only [Act.put, List.setIfInBounds_toArray, List.set_cons_zero, List.set_cons_succ, i64_w, i32_w]
                     rfl
                    refine pure_ (i := 2) (N := some 65) (v := ?_) (a' := ?_) #[true, true, true, false, false, false, false, false, false, false, false, false, false, false, false, false, false, false, false, false] rfl rfl (any_of HT_.out (by kernel_rfl)) (fun _ _ _ h => h) (Or.inl ⟨by rfl, ?_⟩) ?_ ?_
                    rotate_left
                    ·intro w'
                     go_simp
                     with_reducible rfl
                    rotate_left
                    ·simp only [Act.put, List.setIfInBounds_toArray, List.set_cons_zero, List.set_cons_succ, i64_w, i32_w]
                     rfl
                    refine pure_ (i := 3) (N := some 66) (v := ?_) (a' := ?_) #[true, true, true, true, false, false, false, false, false, false, false, false, false, false, false, false, false, false, false, false] rfl rfl (any_of HT_.out (by kernel_rfl)) (fun _ _ _ h => h) (Or.inl ⟨by rfl, ?_⟩) ?_ ?_
                    rotate_left
                    ·intro w'
                     go_simp
                     with_reducible rfl
                    rotate_left
                    ·simp only [Act.put, List.setIfInBounds_toArray, List.set_cons_zero, List.set_cons_succ, i64_w, i32_w]
                     rfl
                    refine pure_ (i := 4) (N := some 67) (v := ?_) (a' := ?_) #[true, true, true, true, true, false, false, false, false, false, false, false, false, false, false, false, false, false, false, false] rfl rfl (any_of HT_.out (by kernel_rfl)) (fun _ _ _ h => h) (Or.inl ⟨by rfl, ?_⟩) ?_ ?_
                    rotate_left
                    ·intro w'
                     go_simp
                     with_reducible rfl
                    rotate_left
                    ·simp only [Act.put, List.setIfInBounds_toArray, List.set_cons_zero, List.set_cons_succ, i64_w, i32_w]
                     rfl
                    refine pure_ (i := 5) (N := some 68) (v := ?_) (a' := ?_) #[true, true, true, true, true, true, false, false, false, false, false, false, false, false, false, false, false, false, false, false] rfl rfl (any_of HT_.out (by kernel_rfl)) (fun _ _ _ h => h) (Or.inl ⟨by rfl, ?_⟩) ?_ ?_
                    rotate_left
                    ·intro w'
                     go_simp
                     with_reducible rfl
                    rotate_left
                    ·simp only [Act.put, List.setIfInBounds_toArray, List.set_cons_zero, List.set_cons_succ, i64_w, i32_w]
                     rfl
                    refine pure_ (i := 7) (N := some 70) (v := ?_) (a' := ?_) #[true, true, true, true, true, true, false, true, false, false, false, false, false, false, false, false, false, false, false, false] rfl rfl (any_of HT_.out (by kernel_rfl)) (fun _ _ _ h => h) (Or.inl ⟨by rfl, ?_⟩) ?_ ?_
                    rotate_left
                    ·intro w'
                     go_simp
                     with_reducible rfl
                    rotate_left
                    ·simp only [Act.put, List.setIfInBounds_toArray, List.set_cons_zero, List.set_cons_succ, i64_w, i32_w]
                     rfl
                    refine pure_ (i := 8) (N := some 71) (v := ?_) (a' := ?_) #[true, true, true, true, true, true, false, true, true, false, false, false, false, false, false, false, false, false, false, false] rfl rfl (any_of HT_.out (by kernel_rfl)) (fun _ _ _ h => h) (Or.inl ⟨by rfl, ?_⟩) ?_ ?_
                    rotate_left
                    ·intro w'
                     go_simp
                     with_reducible rfl
                    rotate_left
                    ·simp only [Act.put, List.setIfInBounds_toArray, List.set_cons_zero, List.set_cons_succ, i64_w, i32_w]
                     rfl
                    refine pure_ (i := 9) (N := some 72) (v := ?_) (a' := ?_) #[true, true, true, true, true, true, false, true, true, true, false, false, false, false, false, false, false, false, false, false] rfl rfl (any_of HT_.out (by kernel_rfl)) (fun _ _ _ h => h) (Or.inl ⟨by rfl, ?_⟩) ?_ ?_
                    rotate_left
                    ·intro w'
                     go_simp
                     with_reducible rfl
                    rotate_left
                    ·simp only [Act.put, List.setIfInBounds_toArray, List.set_cons_zero, List.set_cons_succ, i64_w, i32_w]
                     rfl
                    refine pure_ (i := 10) (N := some 73) (v := ?_) (a' := ?_) #[true, true, true, true, true, true, false, true, true, true, true, false, false, false, false, false, false, false, false, false] rfl rfl (any_of HT_.out (by kernel_rfl)) (fun _ _ _ h => h) (Or.inl ⟨by rfl, ?_⟩) ?_ ?_
                    rotate_left
                    ·intro w'
                     go_simp
                     with_reducible rfl
                    rotate_left
                    ·simp only [Act.put, List.setIfInBounds_toArray, List.set_cons_zero, List.set_cons_succ, i64_w, i32_w]
                     rfl
                    refine pure_ (i := 11) (N := some 74) (v := ?_) (a' := ?_) #[true, true, true, true, true, true, false, true, true, true, true, true, false, false, false, false, false, false, false, false] rfl rfl (any_of HT_.out (by kernel_rfl)) (fun _ _ _ h => h) (Or.inl ⟨by rfl, ?_⟩) ?_ ?_
                    rotate_left
                    ·intro w'
                     go_simp
                     with_reducible rfl
                    rotate_left
                    ·simp only [Act.put, List.setIfInBounds_toArray, List.set_cons_zero, List.set_cons_succ, i64_w, i32_w]
                     rfl
                    refine take_ (i := 6) (N := some 69) (v := ?_) (a' := ?_) #[true, true, true, true, true, true, true, true, true, true, true, true, false, false, false, false, false, false, false, false] rfl rfl (take_ofW HT_.out HW_.out (by kernel_rfl)) (fun _ _ _ h => h) (Or.inl ⟨by rfl, ?_⟩) hHeld ?_ ?_
                    rotate_left
                    ·rintro w' ⟨s0, s1, s2, s3, s4, s5⟩
                     go_simp
                     with_reducible rfl
                    rotate_left
                    ·simp only [Act.put, List.setIfInBounds_toArray, List.set_cons_zero, List.set_cons_succ, i64_w, i32_w]
                     rfl
                    refine take_ (i := 12) (N := some 75) (v := ?_) (a' := ?_) #[true, true, true, true, true, true, true, true, true, true, true, true, true, false, false, false, false, false, false, false] rfl rfl (take_ofW HT_.out HW_.out (by kernel_rfl)) (fun _ _ _ h => h) (Or.inl ⟨by rfl, ?_⟩) hHeld ?_ ?_
                    rotate_left
                    ·rintro w' ⟨s0, s1, s2, s3, s4, s5⟩
                     go_simp
                     with_reducible rfl
                    rotate_left
                    ·simp only [Act.put, List.setIfInBounds_toArray, List.set_cons_zero, List.set_cons_succ, i64_w, i32_w]
                     rfl
                    refine pure_ (i := 13) (N := some 76) (v := ?_) (a' := ?_) #[true, true, true, true, true, true, true, true, true, true, true, true, true, true, false, false, false, false, false, false] rfl rfl (any_of HT_.out (by kernel_rfl)) (fun _ _ _ h => h) (Or.inl ⟨by rfl, ?_⟩) ?_ ?_
                    rotate_left
                    ·intro w'
                     go_simp
                     with_reducible rfl
                    rotate_left
                    ·simp only [Act.put, List.setIfInBounds_toArray, List.set_cons_zero, List.set_cons_succ, i64_w, i32_w]
                     rfl
                    refine pure_ (i := 14) (N := some 77) (v := ?_) (a' := ?_) #[true, true, true, true, true, true, true, true, true, true, true, true, true, true, true, false, false, false, false, false] rfl rfl (any_of HT_.out (by kernel_rfl)) (fun _ _ _ h => h) (Or.inl ⟨by rfl, ?_⟩) ?_ ?_
                    rotate_left
                    ·intro w'
                     go_simp
                     with_reducible rfl
                    rotate_left
                    ·simp only [Act.put, List.setIfInBounds_toArray, List.set_cons_zero, List.set_cons_succ, i64_w, i32_w]
                     rfl
                    refine pure_ (i := 15) (N := some 78) (v := ?_) (a' := ?_) #[true, true, true, true, true, true, true, true, true, true, true, true, true, true, true, true, false, false, false, false] rfl rfl (any_of HT_.out (by kernel_rfl)) (fun _ _ _ h => h) (Or.inl ⟨by rfl, ?_⟩) ?_ ?_
                    rotate_left
                    ·intro w'
                     go_simp
                     with_reducible rfl
                    rotate_left
                    ·simp only [Act.put, List.setIfInBounds_toArray, List.set_cons_zero, List.set_cons_succ, i64_w, i32_w]
                     rfl
                    refine last_ (i := 16) (N := none) #[true, true, true, true, true, true, true, true, true, true, true, true, true, true, true, true, true, false, false, false] rfl rfl (one_of HT_.out (by kernel_rfl)) (by decide) (fun K hK => ?_)
                    refine skip_ (w1 := ?_) (by rfl) rfl ?_ ?_
                    rotate_left
                    ·first | (go_simp; done) | (go_simp; rfl) | ((try (have s0_ := cell_set_if hx132_0; have r0_ := fun q x => cell_set_if (s0_ q x))); (try (have s1_ := cell_set_if hx132_1; have r1_ := fun q x => cell_set_if (s1_ q x))); (try (have s2_ := cell_set_if hx132_2; have r2_ := fun q x => cell_set_if (s2_ q x))); (try (have s3_ := cell_set_if hx133_0; have r3_ := fun q x => cell_set_if (s3_ q x))); (try (have s4_ := cell_set_if hx133_1; have r4_ := fun q x => cell_set_if (s4_ q x))); (try (have s5_ := cell_set_if hx133_2; have r5_ := fun q x => cell_set_if (s5_ q x))); (try (have s6_ := cell_set_if hx134_0; have r6_ := fun q x => cell_set_if (s6_ q x))); (try (have s7_ := cell_set_if hx134_1; have r7_ := fun q x => cell_set_if (s7_ q x))); (try (have s8_ := cell_set_if hx134_2; have r8_ := fun q x => cell_set_if (s8_ q x))); (try (have s9_ := cell_set_if hx29_0; have r9_ := fun q x => cell_set_if (s9_ q x))); (try (have s10_ := cell_set_if hx29_1; have r10_ := fun q x => cell_set_if (s10_ q x))); (try (have s11_ := cell_set_if hx29_2; have r11_ := fun q x => cell_set_if (s11_ q x))); (try (have s12_ := cell_set_if hx30_0; have r12_ := fun q x => cell_set_if (s12_ q x))); (try (have s13_ := cell_set_if hx30_1; have r13_ := fun q x => cell_set_if (s13_ q x))); (try (have s14_ := cell_set_if hx30_2; have r14_ := fun q x => cell_set_if (s14_ q x))); (try (have f0_ := hf29_0; rw [World.frozen?_setCells] at f0_)); (try (have f1_ := hf29_1; rw [World.frozen?_setCells] at f1_)); (try (have f2_ := hf29_2; rw [World.frozen?_setCells] at f2_)); (try (have f3_ := hf30_0; rw [World.frozen?_setCells] at f3_)); (try (have f4_ := hf30_1; rw [World.frozen?_setCells] at f4_)); (try (have f5_ := hf30_2; rw [World.frozen?_setCells] at f5_)); go_simp; done) | ((try (have s0_ := cell_set_if hx132_0; have r0_ := fun q x => cell_set_if (s0_ q x))); (try (have s1_ := cell_set_if hx132_1; have r1_ := fun q x => cell_set_if (s1_ q x))); (try (have s2_ := cell_set_if hx132_2; have r2_ := fun q x => cell_set_if (s2_ q x))); (try (have s3_ := cell_set_if hx133_0; have r3_ := fun q x => cell_set_if (s3_ q x))); (try (have s4_ := cell_set_if hx133_1; have r4_ := fun q x => cell_set_if (s4_ q x))); (try (have s5_ := cell_set_if hx133_2; have r5_ := fun q x => cell_set_if (s5_ q x))); (try (have s6_ := cell_set_if hx134_0; have r6_ := fun q x => cell_set_if (s6_ q x))); (try (have s7_ := cell_set_if hx134_1; have r7_ := fun q x => cell_set_if (s7_ q x))); (try (have s8_ := cell_set_if hx134_2; have r8_ := fun q x => cell_set_if (s8_ q x))); (try (have s9_ := cell_set_if hx29_0; have r9_ := fun q x => cell_set_if (s9_ q x))); (try (have s10_ := cell_set_if hx29_1; have r10_ := fun q x => cell_set_if (s10_ q x))); (try (have s11_ := cell_set_if hx29_2; have r11_ := fun q x => cell_set_if (s11_ q x))); (try (have s12_ := cell_set_if hx30_0; have r12_ := fun q x => cell_set_if (s12_ q x))); (try (have s13_ := cell_set_if hx30_1; have r13_ := fun q x => cell_set_if (s13_ q x))); (try (have s14_ := cell_set_if hx30_2; have r14_ := fun q x => cell_set_if (s14_ q x))); (try (have f0_ := hf29_0; rw [World.frozen?_setCells] at f0_)); (try (have f1_ := hf29_1; rw [World.frozen?_setCells] at f1_)); (try (have f2_ := hf29_2; rw [World.frozen?_setCells] at f2_)); (try (have f3_ := hf30_0; rw [World.frozen?_setCells] at f3_)); (try (have f4_ := hf30_1; rw [World.frozen?_setCells] at f4_)); (try (have f5_ := hf30_2; rw [World.frozen?_setCells] at f5_)); go_simp; rfl)
                    refine hK.out _ _ ?_
                    clear hK K
                    refine pure_ (i := 17) (N := some 79) (v := ?_) (a' := ?_) #[true, true, true, true, true, true, true, true, true, true, true, true, true, true, true, true, true, true, false, false] rfl rfl (any_of HT_.out (by kernel_rfl)) (fun _ _ _ h => h) (Or.inl ⟨by rfl, ?_⟩) ?_ ?_
                    rotate_left
                    ·intro w'
                     go_simp
                     with_reducible rfl
                    rotate_left
                    ·simp only [Act.put, List.setIfInBounds_toArray, List.set_cons_zero, List.set_cons_succ, i64_w, i32_w]
                     rfl
                    refine pure_ (i := 18) (N := some 80) (v := ?_) (a' := ?_) #[true, true, true, true, true, true, true, true, true, true, true, true, true, true, true, true, true, true, true, false] rfl rfl (any_of HT_.out (by kernel_rfl)) (fun _ _ _ h => h) (Or.inl ⟨by rfl, ?_⟩) ?_ ?_
                    rotate_left
                    ·intro w'
                     go_simp
                     with_reducible rfl
                    rotate_left
                    ·simp only [Act.put, List.setIfInBounds_toArray, List.set_cons_zero, List.set_cons_succ, i64_w, i32_w]
                     rfl
                    refine last_ (i := 19) (N := none) #[true, true, true, true, true, true, true, true, true, true, true, true, true, true, true, true, true, true, true, true] rfl rfl (one_of HT_.out (by kernel_rfl)) (by decide) (fun K hK => ?_)
                    refine skip_ (w1 := ?_) (by rfl) rfl ?_ ?_
                    rotate_left
                    ·first | (go_simp; done) | (go_simp; rfl) | ((try (have s0_ := cell_set_if hx132_0; have r0_ := fun q x => cell_set_if (s0_ q x))); (try (have s1_ := cell_set_if hx132_1; have r1_ := fun q x => cell_set_if (s1_ q x))); (try (have s2_ := cell_set_if hx132_2; have r2_ := fun q x => cell_set_if (s2_ q x))); (try (have s3_ := cell_set_if hx133_0; have r3_ := fun q x => cell_set_if (s3_ q x))); (try (have s4_ := cell_set_if hx133_1; have r4_ := fun q x => cell_set_if (s4_ q x))); (try (have s5_ := cell_set_if hx133_2; have r5_ := fun q x => cell_set_if (s5_ q x))); (try (have s6_ := cell_set_if hx134_0; have r6_ := fun q x => cell_set_if (s6_ q x))); (try (have s7_ := cell_set_if hx134_1; have r7_ := fun q x => cell_set_if (s7_ q x))); (try (have s8_ := cell_set_if hx134_2; have r8_ := fun q x => cell_set_if (s8_ q x))); (try (have s9_ := cell_set_if hx29_0; have r9_ := fun q x => cell_set_if (s9_ q x))); (try (have s10_ := cell_set_if hx29_1; have r10_ := fun q x => cell_set_if (s10_ q x))); (try (have s11_ := cell_set_if hx29_2; have r11_ := fun q x => cell_set_if (s11_ q x))); (try (have s12_ := cell_set_if hx30_0; have r12_ := fun q x => cell_set_if (s12_ q x))); (try (have s13_ := cell_set_if hx30_1; have r13_ := fun q x => cell_set_if (s13_ q x))); (try (have s14_ := cell_set_if hx30_2; have r14_ := fun q x => cell_set_if (s14_ q x))); (try (have f0_ := hf29_0; rw [World.frozen?_setCells] at f0_)); (try (have f1_ := hf29_1; rw [World.frozen?_setCells] at f1_)); (try (have f2_ := hf29_2; rw [World.frozen?_setCells] at f2_)); (try (have f3_ := hf30_0; rw [World.frozen?_setCells] at f3_)); (try (have f4_ := hf30_1; rw [World.frozen?_setCells] at f4_)); (try (have f5_ := hf30_2; rw [World.frozen?_setCells] at f5_)); go_simp; done) | ((try (have s0_ := cell_set_if hx132_0; have r0_ := fun q x => cell_set_if (s0_ q x))); (try (have s1_ := cell_set_if hx132_1; have r1_ := fun q x => cell_set_if (s1_ q x))); (try (have s2_ := cell_set_if hx132_2; have r2_ := fun q x => cell_set_if (s2_ q x))); (try (have s3_ := cell_set_if hx133_0; have r3_ := fun q x => cell_set_if (s3_ q x))); (try (have s4_ := cell_set_if hx133_1; have r4_ := fun q x => cell_set_if (s4_ q x))); (try (have s5_ := cell_set_if hx133_2; have r5_ := fun q x => cell_set_if (s5_ q x))); (try (have s6_ := cell_set_if hx134_0; have r6_ := fun q x => cell_set_if (s6_ q x))); (try (have s7_ := cell_set_if hx134_1; have r7_ := fun q x => cell_set_if (s7_ q x))); (try (have s8_ := cell_set_if hx134_2; have r8_ := fun q x => cell_set_if (s8_ q x))); (try (have s9_ := cell_set_if hx29_0; have r9_ := fun q x => cell_set_if (s9_ q x))); (try (have s10_ := cell_set_if hx29_1; have r10_ := fun q x => cell_set_if (s10_ q x))); (try (have s11_ := cell_set_if hx29_2; have r11_ := fun q x => cell_set_if (s11_ q x))); (try (have s12_ := cell_set_if hx30_0; have r12_ := fun q x => cell_set_if (s12_ q x))); (try (have s13_ := cell_set_if hx30_1; have r13_ := fun q x => cell_set_if (s13_ q x))); (try (have s14_ := cell_set_if hx30_2; have r14_ := fun q x => cell_set_if (s14_ q x))); (try (have f0_ := hf29_0; rw [World.frozen?_setCells] at f0_)); (try (have f1_ := hf29_1; rw [World.frozen?_setCells] at f1_)); (try (have f2_ := hf29_2; rw [World.frozen?_setCells] at f2_)); (try (have f3_ := hf30_0; rw [World.frozen?_setCells] at f3_)); (try (have f4_ := hf30_1; rw [World.frozen?_setCells] at f4_)); (try (have f5_ := hf30_2; rw [World.frozen?_setCells] at f5_)); go_simp; rfl)
                    refine hK.out _ _ ?_
                    clear hK K
                    refine done_ (done_of HT_.out (by kernel_rfl)) ?_
                    try go_wp2
                    (try simp only [← hl7_4])
                    go_roundg k4
                    case measure => have := HJ2.out; have := HK2.out; have := HK3.out; have := HK4.out; omega
                    case rel => exact ⟨(y136), (wrap64 (x51_4 + 1)), (by first | rfl | (simp; done) | (simp [*]; done)), H', ⟨by have := HJ2.out; have := HK2.out; have := HK3.out; have := HK4.out; omega⟩, ⟨by (try simp only [hl7_4]); (with_reducible repeat (first | apply Kd.R_alloc | apply Kd.R_drewN | apply Kd.R_drew)); exact HQ34.out⟩, ⟨by (try simp only [hl7_4]); (with_reducible repeat (first | apply Kd.R_alloc | apply Kd.R_drewN | apply Kd.R_drew)); exact Kd.R_mono (Kd.R_far (p := ⟨go29, (x51_4 : Int).toNat * 3 + 2, none⟩) (Kd.R_far (p := ⟨go29, (x51_4 : Int).toNat * 3 + 1, none⟩) (Kd.R_types HO_10.out GG29.out (by decide)) (fun _ hk => hk.2) (.int .i64 ((rd_T55 l0 x51_4).f0))) (fun _ hk => hk.2) (.int .i64 (wrap64 (x46_3 + ((rd_T55 l0 x51_4).f1))))) (fun _ hk => trivial)⟩, ⟨by repeat (first | (with_reducible first | exact HB.out | apply below_alloc | apply pw_below_drewN | apply below_drew1 | refine below_set ?_ GB29.out | refine below_set ?_ GB29.out) | exact HB.out)⟩⟩
                   ·rw [if_neg c31] at H
                    exact absurd H (by simp)
                  ·rw [if_neg c28] at H
                   have c28b0 : (((rd_T59 x7_4 x51_4).f2) == x46_3) = false := beq_eq_false_iff_ne.mpr c28
                   have c28b1 : (((rd_T59 x7_4 x51_4).f2) != x46_3) = true := bne_iff_ne.mpr c28
                   have H' := Aside0.mk H
                   clear H
                   have p132 : 0 ≤ (x51_4 : Int) := of_decide_eq_true (by first | (with_reducible assumption) | assumption)
                   have q132 : x51_4 < (x7_4.length : Int) := of_decide_eq_true (by first | (with_reducible assumption) | assumption)
                   obtain ⟨ad132, e132, hx132_0, hx132_1, hx132_2⟩ := at_T59 (Kd.R_reads' HO_7.out).2.2 x51_4 p132 q132
                   cases e132
                   replace p132 := eq_true p132
                   replace q132 := eq_true q132
                   go_wp2
                   (try simp only [← hl7_4])
                   go_roundg k4
                   case measure => have := HJ2.out; have := HK2.out; have := HK3.out; have := HK4.out; omega
                   case rel => exact ⟨(x7_4), (wrap64 (x51_4 + 1)), (by first | rfl | (simp; done) | (simp [*]; done)), H', ⟨by have := HJ2.out; have := HK2.out; have := HK3.out; have := HK4.out; omega⟩, ⟨by (try simp only [hl7_4]); (with_reducible repeat (first | apply Kd.R_alloc | apply Kd.R_drewN | apply Kd.R_drew)); exact HO_7.out⟩, ⟨by (try simp only [hl7_4]); (with_reducible repeat (first | apply Kd.R_alloc | apply Kd.R_drewN | apply Kd.R_drew)); exact HO_10.out⟩, ⟨by repeat (first | (with_reducible first | exact HB.out | apply below_alloc | apply pw_below_drewN | apply below_drew1) | exact HB.out)⟩⟩
                 ·rw [if_neg c27] at H
                  exact absurd H (by simp)
                ·rw [if_neg c26] at H
                 exact absurd H (by simp)
               ·rw [if_neg c25] at H
                have c25b0 : decide (x51_4 < (x7_3.length : Int)) = false := decide_eq_false c25
                (try (have c25b7_0 := c25b0; rw [hl7_4] at c25b7_0))
                clear c25
                replace H := Option.bind_eq_some_iff.mp H
                obtain ⟨t137, A350, H⟩ := H
                replace H : (if t137 ≥ 0 then (if 0 ≤ t137 then (if t137 < (x7_4.length : Int) then (if x10_3.length < 17592186044416 then (edf_Plan.l1 k4 l0 (x7_4.set (t137 : Int).toNat (⟨(rd_T59 x7_4 t137).f0, wrap64 (((rd_T59 x7_4 t137).f1) - 1), (rd_T59 x7_4 t137).f2⟩ : S59)) (x10_3 ++ [t137]) a1 (wrap64 (x46_3 + 1))) else (none)) else (none)) else (none)) else (if x10_3.length < 17592186044416 then (edf_Plan.l1 k4 l0 x7_4 (x10_3 ++ [t137]) a1 (wrap64 (x46_3 + 1))) else (none))) = some (r1, r2) := H
                have A35 := Aside0.mk A350
                clear A350
                by_cases c36 : t137 ≥ 0
                ·rw [if_pos c36] at H
                 have c36b0 : decide (0 ≤ t137) = true := decide_eq_true c36
                 clear c36
                 by_cases c37 : 0 ≤ t137
                 ·rw [if_pos c37] at H
                  have c37b0 : decide (0 ≤ t137) = true := decide_eq_true c37
                  clear c37
                  by_cases c38 : t137 < (x7_4.length : Int)
                  ·rw [if_pos c38] at H
                   have c38b0 : decide (t137 < (x7_4.length : Int)) = true := decide_eq_true c38
                   (try (have c38b7_0 := c38b0; rw [hl7_4] at c38b7_0))
                   clear c38
                   obtain ⟨y139, hy139⟩ : ∃ y_ : List (S59), y_ = (x7_4.set (t137 : Int).toNat (⟨(rd_T59 x7_4 t137).f0, wrap64 (((rd_T59 x7_4 t137).f1) - 1), (rd_T59 x7_4 t137).f2⟩ : S59)) := ⟨_, rfl⟩
                   replace H : (if x10_3.length < 17592186044416 then (edf_Plan.l1 k4 l0 y139 (x10_3 ++ [t137]) a1 (wrap64 (x46_3 + 1))) else (none)) = some (r1, r2) := by first | (rw [hy139]; with_reducible exact H) | (have H2_ := (Option.bind_some _ _).symm.trans H; rw [hy139]; with_reducible exact H2_) | (have H2_ := (Option.bind_some _ _).symm.trans H; with_reducible exact H2_) | with_reducible exact H | (rw [hy139]; exact H) | exact H
                   have Ny139 := Aside0.mk hy139
                   clear hy139
                   by_cases c40 : x10_3.length < 17592186044416
                   ·rw [if_pos c40] at H
                    have LMc40 := Aside0.mk c40
                    clear c40
                    obtain ⟨y140, hy140⟩ : ∃ y_ : List Int, y_ = (x10_3 ++ [t137]) := ⟨_, rfl⟩
                    replace H : (edf_Plan.l1 k4 l0 y139 y140 a1 (wrap64 (x46_3 + 1))) = some (r1, r2) := by first | (rw [hy140]; with_reducible exact H) | (have H2_ := (Option.bind_some _ _).symm.trans H; rw [hy140]; with_reducible exact H2_) | (have H2_ := (Option.bind_some _ _).symm.trans H; with_reducible exact H2_) | with_reducible exact H | (rw [hy140]; exact H) | exact H
                    have Ny140 := Aside0.mk hy140
                    clear hy140
                    have H' := Aside0.mk H
                    clear H
                    go_wp2_with (first | ((with_reducible refine gate_callee (f := 29) rfl ?_); refine goesL_ (some 83) rfl rfl Try.func29 (by kernel_rfl) rfl #[.slice Ao24 x7_4.length co24] rfl (by (try simp only [List.map_toArray, List.map_cons, List.map_nil]); first | done | rfl | (simp only [List.length_drop, List.length_take]; rfl)) ?_; (with_reducible refine (edf_Pick.calls k4 _ _ x7_4 t137 _ ?side1 ?side2 A35.out).mono ?_); (case side1 => repeat (first | exact (Kd.R_reads' HO_7.out).2.2 | (with_reducible refine Kd.C_alloc ?_ _) | (with_reducible refine Kd.C_drewN ?_ _) | (with_reducible refine Kd.C_drew ?_))); (case side2 => exact (Kd.R_reads' HO_7.out).2.1); rintro e w41 ⟨rfl, hb⟩; refine ⟨_, rfl, ?_⟩; have n0_ := Aside0.mk (Kd.R_below (by (with_reducible repeat (first | apply Kd.R_alloc | apply Kd.R_drewN | apply Kd.R_drew)); exact HO_7.out) hb); have n1_ := Aside0.mk (Kd.R_below (by (with_reducible repeat (first | apply Kd.R_alloc | apply Kd.R_drewN | apply Kd.R_drew)); exact HO_10.out) hb); have n2_ := Aside0.mk (below_step (by repeat (first | (with_reducible first | exact HB.out | apply below_alloc | apply pw_below_drewN | apply below_drew1) | exact HB.out)) hb); clear HO_7; clear HO_10; clear HB; have HO_7 := n0_; have HO_10 := n1_; have HB := n2_; clear n0_ n1_ n2_; (try clear hb); (try clear hb2); (try clear hk); (try clear hi); have p138 : 0 ≤ (t137 : Int) := of_decide_eq_true (by first | (with_reducible assumption) | assumption); have q138 : t137 < (x7_4.length : Int) := of_decide_eq_true (by first | (with_reducible assumption) | assumption); obtain ⟨ad138, e138, hx138_0, hx138_1, hx138_2⟩ := at_T59 (Kd.R_reads' HO_7.out).2.2 t137 p138 q138; cases e138; replace p138 := eq_true p138; replace q138 := eq_true q138; have p39 : 0 ≤ (t137 : Int) := of_decide_eq_true (by first | (with_reducible assumption) | assumption); have q39 : (t137 : Int) < ((x7_4.length : Int) : Int) := of_decide_eq_true (by first | (with_reducible assumption) | assumption); obtain ⟨go39, co39, eo39, gb39, gl39, cl39, HG39⟩ := Kd.R_form HO_7.out (by omega); (first | cases eo39 | (injection eo39 with ea_ en_ ec_; (first | subst ea_ | (injection ea_ with ea_; subst ea_)); subst ec_; clear en_)); have GB39 := Aside0.mk gb39; have GG39 := Aside0.mk HG39; clear gb39 gl39 HG39; (first | simp only [add_plain] at hx138_0 | skip); (first | simp only [add_plain] at hx138_1 | skip); (first | simp only [add_plain] at hx138_2 | skip); obtain ⟨ce39, hcl39, hM39, hcc39, hfr39⟩ := Kd.R_elem HO_7.out z59 (t137 : Int) p39 q39; obtain rfl := k59_openM hM39; have hx39_0 : w41.cell? ⟨go39, (t137 : Int).toNat * 3, none⟩ = some (.int .i64 ((rd_T59 x7_4 t137).f0)) := hcc39 0 _ rfl; have hx39_1 : w41.cell? ⟨go39, (t137 : Int).toNat * 3 + 1, none⟩ = some (.int .i64 ((rd_T59 x7_4 t137).f1)) := hcc39 1 _ rfl; have hx39_2 : w41.cell? ⟨go39, (t137 : Int).toNat * 3 + 2, none⟩ = some (.int .i64 ((rd_T59 x7_4 t137).f2)) := hcc39 2 _ rfl; have hf39_0 : w41.frozen? ⟨go39, (t137 : Int).toNat * 3, none⟩ = false := hfr39 0; have hf39_1 : w41.frozen? ⟨go39, (t137 : Int).toNat * 3 + 1, none⟩ = false := hfr39 1; have hf39_2 : w41.frozen? ⟨go39, (t137 : Int).toNat * 3 + 2, none⟩ = false := hfr39 2; clear hcl39 hcc39 hfr39 hM39; replace p39 := eq_true p39; replace q39 := eq_true q39; have HX42 := Aside0.mk (show Kd.R k59 59 w41 w.heap.size (fun _ => True) (.slice (some ⟨go39, 0, none⟩) x7_4.length co24) x7_4 from (by (with_reducible repeat (first | apply Kd.R_alloc | apply Kd.R_drewN | apply Kd.R_drew)); exact HO_7.out)); obtain ⟨ce42, hcl42, hM42, hcc42, hfr42⟩ := Kd.R_elem HX42.out z59 (t137 : Int) (of_decide_eq_true (by first | (with_reducible assumption) | assumption)) (by have h_ : (t137 : Int) < ((x7_4.length : Int) : Int) := of_decide_eq_true (by first | (with_reducible assumption) | assumption); first | exact h_ | (have e_ := (Kd.R_reads' HO_7.out).1; omega) | (simp; done) | simpa using h_); obtain rfl := k59_openM hM42; have HP42 := Kd.R_seg HX42.out (t137 : Int) (of_decide_eq_true (by first | (with_reducible assumption) | assumption)) (by have h_ : (t137 : Int) < ((x7_4.length : Int) : Int) := of_decide_eq_true (by first | (with_reducible assumption) | assumption); first | exact h_ | (have e_ := (Kd.R_reads' HO_7.out).1; omega) | (simp; done) | simpa using h_) (seg := [.int .i64 (wrap64 (((rd_T59 x7_4 t137).f1) - 1))]) (j := 1) hcl42 hcc42 (show 2 ≤ 3 from by decide) (x' := (⟨(rd_T59 x7_4 t137).f0, wrap64 (((rd_T59 x7_4 t137).f1) - 1), (rd_T59 x7_4 t137).f2⟩ : S59)) (k59_mkM _ _ _ (⟨(rd_T59 x7_4 t137).f0, wrap64 (((rd_T59 x7_4 t137).f1) - 1), (rd_T59 x7_4 t137).f2⟩ : S59) ) (fun _ hk => hk); have hx42_1 := hcc42 1 _ rfl; (try simp only [show (k59).sz = 3 from rfl, Nat.mul_one, Nat.add_zero] at hx42_1); have hf42_1 := hfr42 1; (try simp only [show (k59).sz = 3 from rfl, Nat.mul_one, Nat.add_zero] at hf42_1); clear hcl42 hcc42 hfr42 hM42) | ((with_reducible refine gate_store (t := 3) (p := 93) rfl ?_); refine store_event (t := 3) (p := 93) (v := ?vo_w43) (w1 := (w41.setCell ⟨go39, (t137 : Int).toNat * 3 + 1, none⟩ (.int .i64 (wrap64 (((rd_T59 x7_4 t137).f1) - 1))))) ?hg ?ho ?hn ?hr ?_; (case ho => rfl); (case hg => rfl); (case hn => rfl); (case hr => first | (go_simp; done) | (go_simp; rfl)); intro w43 hw; have hg : w41.grownBy w43 (some go39) := (by rw [hw]; exact HP42.2); have hp_ : Kd.R k59 59 w43 w.heap.size (fun _ => True) (.slice (some ⟨go39, 0, none⟩) x7_4.length co24) y139 := (by rw [hw, Ny139.out]; exact HP42.1); clear HP42; have n0_ := Aside0.mk (hp_); have n1_ := Aside0.mk (Kd.R_over' (v := (.slice (some ⟨go39, 0, none⟩) x7_4.length co24)) (by (with_reducible repeat (first | apply Kd.R_alloc | apply Kd.R_drewN | apply Kd.R_drew)); exact HO_10.out) (Kd.R_typed HO_7.out) (by decide) hg); have n2_ := Aside0.mk ((by rw [hw]; exact below_set (HB.out) GB39.out : Below w.heap.size w w43)); clear HO_7; clear HO_10; clear HB; have HO_7 := n0_; have HO_10 := n1_; have HB := n2_; clear n0_ n1_ n2_; clear hg hw hp_) | ((with_reducible refine gate_builtin (b := .append) (xs := #[.tmp 94, .tmp 96]) rfl ?_); at_builtin; refine Kd.R_append (Kd.int .i64) (w0 := w) w.heap.size rfl (.tmp 94) (.tmp 96) 23 3 (.int .i64 0) 8 rfl Try.underlying23 info3 rfl (by decide) (by omega) u10 x10_3 t137 [.int .i64 t137] (fun _ => True) (fun _ => False) rfl rfl ?aP (fun _ hk => hk.elim) ?aF ?aO ?aB ?aS ?aL ?_; (case aP => exact rfl); (case aB => exact (by repeat (first | (with_reducible first | exact HB.out | apply below_alloc | apply pw_below_drewN | apply below_drew1) | exact HB.out))); (case aF => exact (fun _ _ => trivial)); (case aO => exact (by (with_reducible repeat (first | apply Kd.R_alloc | apply Kd.R_drewN | apply Kd.R_drew)); exact HO_10.out)); (case aS => exact (below_size (by repeat (first | (with_reducible first | exact HB.out | apply below_alloc | apply pw_below_drewN | apply below_drew1) | exact HB.out)))); (case aL => have := LMc40.out; omega); intro v141 w44 ho hb hg hat; rw [← Ny140.out] at ho; have n0_ := Aside0.mk (Kd.R_over' (by (with_reducible repeat (first | apply Kd.R_alloc | apply Kd.R_drewN | apply Kd.R_drew)); exact HO_7.out) (Kd.R_typed (by (with_reducible repeat (first | apply Kd.R_alloc | apply Kd.R_drewN | apply Kd.R_drew)); exact HO_10.out)) (by decide) hg); have n1_ := Aside0.mk (hb); have n2_ := Aside0.mk (ho); clear HO_7; clear HB; clear HO_10; have HO_7 := n0_; have HB := n1_; have HO142 := n2_; clear n0_ n1_ n2_; clear ho hb hg hat))
                    (try simp only [← hl7_4])
                    go_roundg k4
                    case measure => have := HJ2.out; have := HK2.out; have := HK3.out; have := HK4.out; omega
                    case rel => exact ⟨(y139), (y140), (wrap64 (x46_3 + 1)), (by first | rfl | (simp; done) | (simp [*]; done)), H', ⟨by have := HJ2.out; have := HK2.out; have := HK3.out; have := HK4.out; omega⟩, ⟨by (try simp only [hl7_4]); (with_reducible repeat (first | apply Kd.R_alloc | apply Kd.R_drewN | apply Kd.R_drew)); exact HO_7.out⟩, ⟨by (try simp only [hl7_4]); (with_reducible repeat (first | apply Kd.R_alloc | apply Kd.R_drewN | apply Kd.R_drew)); exact HO142.out⟩, ⟨by repeat (first | (with_reducible first | exact HB.out | apply below_alloc | apply pw_below_drewN | apply below_drew1) | exact HB.out)⟩⟩
                   ·rw [if_neg c40] at H
                    exact absurd H (by simp)
                  ·rw [if_neg c38] at H
                   exact absurd H (by simp)
                 ·rw [if_neg c37] at H
                  exact absurd H (by simp)
                ·rw [if_neg c36] at H
                 have c36b0 : decide (0 ≤ t137) = false := decide_eq_false c36
                 clear c36
                 by_cases c45 : x10_3.length < 17592186044416
                 ·rw [if_pos c45] at H
                  have LMc45 := Aside0.mk c45
                  clear c45
                  obtain ⟨y143, hy143⟩ : ∃ y_ : List Int, y_ = (x10_3 ++ [t137]) := ⟨_, rfl⟩
                  replace H : (edf_Plan.l1 k4 l0 x7_4 y143 a1 (wrap64 (x46_3 + 1))) = some (r1, r2) := by first | (rw [hy143]; with_reducible exact H) | (have H2_ := (Option.bind_some _ _).symm.trans H; rw [hy143]; with_reducible exact H2_) | (have H2_ := (Option.bind_some _ _).symm.trans H; with_reducible exact H2_) | with_reducible exact H | (rw [hy143]; exact H) | exact H
                  have Ny143 := Aside0.mk hy143
                  clear hy143
                  have H' := Aside0.mk H
                  clear H
                  go_wp2_with (first | ((with_reducible refine gate_callee (f := 29) rfl ?_); refine goesL_ (some 83) rfl rfl Try.func29 (by kernel_rfl) rfl #[.slice Ao24 x7_4.length co24] rfl (by (try simp only [List.map_toArray, List.map_cons, List.map_nil]); first | done | rfl | (simp only [List.length_drop, List.length_take]; rfl)) ?_; (with_reducible refine (edf_Pick.calls k4 _ _ x7_4 t137 _ ?side1 ?side2 A35.out).mono ?_); (case side1 => repeat (first | exact (Kd.R_reads' HO_7.out).2.2 | (with_reducible refine Kd.C_alloc ?_ _) | (with_reducible refine Kd.C_drewN ?_ _) | (with_reducible refine Kd.C_drew ?_))); (case side2 => exact (Kd.R_reads' HO_7.out).2.1); rintro e w46 ⟨rfl, hb⟩; refine ⟨_, rfl, ?_⟩; have n0_ := Aside0.mk (Kd.R_below (by (with_reducible repeat (first | apply Kd.R_alloc | apply Kd.R_drewN | apply Kd.R_drew)); exact HO_7.out) hb); have n1_ := Aside0.mk (Kd.R_below (by (with_reducible repeat (first | apply Kd.R_alloc | apply Kd.R_drewN | apply Kd.R_drew)); exact HO_10.out) hb); have n2_ := Aside0.mk (below_step (by repeat (first | (with_reducible first | exact HB.out | apply below_alloc | apply pw_below_drewN | apply below_drew1) | exact HB.out)) hb); clear HO_7; clear HO_10; clear HB; have HO_7 := n0_; have HO_10 := n1_; have HB := n2_; clear n0_ n1_ n2_; (try clear hb); (try clear hb2); (try clear hk); (try clear hi)) | ((with_reducible refine gate_builtin (b := .append) (xs := #[.tmp 94, .tmp 96]) rfl ?_); at_builtin; refine Kd.R_append (Kd.int .i64) (w0 := w) w.heap.size rfl (.tmp 94) (.tmp 96) 23 3 (.int .i64 0) 8 rfl Try.underlying23 info3 rfl (by decide) (by omega) u10 x10_3 t137 [.int .i64 t137] (fun _ => True) (fun _ => False) rfl rfl ?aP (fun _ hk => hk.elim) ?aF ?aO ?aB ?aS ?aL ?_; (case aP => exact rfl); (case aB => exact (by repeat (first | (with_reducible first | exact HB.out | apply below_alloc | apply pw_below_drewN | apply below_drew1) | exact HB.out))); (case aF => exact (fun _ _ => trivial)); (case aO => exact (by (with_reducible repeat (first | apply Kd.R_alloc | apply Kd.R_drewN | apply Kd.R_drew)); exact HO_10.out)); (case aS => exact (below_size (by repeat (first | (with_reducible first | exact HB.out | apply below_alloc | apply pw_below_drewN | apply below_drew1) | exact HB.out)))); (case aL => have := LMc45.out; omega); intro v144 w47 ho hb hg hat; rw [← Ny143.out] at ho; have n0_ := Aside0.mk (Kd.R_over' (by (with_reducible repeat (first | apply Kd.R_alloc | apply Kd.R_drewN | apply Kd.R_drew)); exact HO_7.out) (Kd.R_typed (by (with_reducible repeat (first | apply Kd.R_alloc | apply Kd.R_drewN | apply Kd.R_drew)); exact HO_10.out)) (by decide) hg); have n1_ := Aside0.mk (hb); have n2_ := Aside0.mk (ho); clear HO_7; clear HB; clear HO_10; have HO_7 := n0_; have HB := n1_; have HO145 := n2_; clear n0_ n1_ n2_; clear ho hb hg hat))
                  (try simp only [← hl7_4])
                  go_roundg k4
                  case measure => have := HJ2.out; have := HK2.out; have := HK3.out; have := HK4.out; omega
                  case rel => exact ⟨(x7_4), (y143), (wrap64 (x46_3 + 1)), (by first | rfl | (simp; done) | (simp [*]; done)), H', ⟨by have := HJ2.out; have := HK2.out; have := HK3.out; have := HK4.out; omega⟩, ⟨by (try simp only [hl7_4]); (with_reducible repeat (first | apply Kd.R_alloc | apply Kd.R_drewN | apply Kd.R_drew)); exact HO_7.out⟩, ⟨by (try simp only [hl7_4]); (with_reducible repeat (first | apply Kd.R_alloc | apply Kd.R_drewN | apply Kd.R_drew)); exact HO145.out⟩, ⟨by repeat (first | (with_reducible first | exact HB.out | apply below_alloc | apply pw_below_drewN | apply below_drew1) | exact HB.out)⟩⟩
                 ·rw [if_neg c45] at H
                  exact absurd H (by simp)
            ·rw [if_neg c23] at H
             have c23b0 : decide (x46_3 < a1) = false := decide_eq_false c23
             clear c23
             simp only [Option.some.injEq, Prod.mk.injEq] at H
             obtain ⟨rfl, rfl⟩ := H
             go_wp2
             go_ret2
             exact ⟨_, by first | rfl | (simp [errW_none, errW_some] <;> rfl) | (simp [*, errW_none, errW_some] <;> rfl), by (with_reducible repeat (first | apply Kd.R_alloc | apply Kd.R_drewN | apply Kd.R_drew)); exact HO_10.out, by repeat (first | (with_reducible first | exact HB.out | apply below_alloc | apply pw_below_drewN | apply below_drew1) | exact HB.out)⟩
      ·rw [if_neg c8] at H
       exact absurd H (by simp)
     ·rw [if_neg c7] at H
      exact absurd H (by simp)
    ·have H1 : (some (([] : List Int), some q125)) = some (r1, r2) := by rw [if_neg (show ¬ (some q125).isNone = true by simp)] at H; exact H
     clear H
     have H := H1
     clear H1
     try simp only [errW_none, errW_some]
     simp only [Option.some.injEq, Prod.mk.injEq] at H
     obtain ⟨rfl, rfl⟩ := H
     go_wp2_with (first | ((with_reducible refine gate_callee (f := 17) rfl ?_); refine goesL_ (some 23) rfl rfl Try.func17 (by kernel_rfl) rfl #[.slice A0 l0.length c0] rfl (by (try simp only [List.map_toArray, List.map_cons, List.map_nil]); first | done | rfl | (simp only [List.length_drop, List.length_take]; rfl)) ?_; (with_reducible refine (edf_Valid.calls kj2 _ _ l0 (some q125) _ ?side1 ?side2 A6.out).mono ?_); (case side1 => repeat (first | exact (Kd.C_below HR0.out HB.out) | (with_reducible refine Kd.C_alloc ?_ _) | (with_reducible refine Kd.C_drewN ?_ _) | (with_reducible refine Kd.C_drew ?_))); (case side2 => exact HC0.out); rintro e w48 ⟨rfl, hb⟩; refine ⟨_, rfl, ?_⟩; have n0_ := Aside0.mk (below_step (by repeat (first | (with_reducible first | exact HB.out | apply below_alloc | apply pw_below_drewN | apply below_drew1) | exact HB.out)) hb); clear HB; have HB := n0_; clear n0_; (try clear hb); (try clear hb2); (try clear hk); (try clear hi); (try simp only [errW_none, errW_some])))
     go_ret2
     exact ⟨_, by first | rfl | (simp [errW_none, errW_some] <;> rfl) | (simp [*, errW_none, errW_some] <;> rfl), by first | exact Kd.R_nil _ _ _ _ _ | exact Kd.N_nil _ _ _ _ _ | exact Kd.V_nil _ _ _ _ _ | exact Kd.Q_nil _ _ _ _ _ | exact Kd.S_nil _ _ _ _ _, by repeat (first | (with_reducible first | exact HB.out | apply below_alloc | apply pw_below_drewN | apply below_drew1) | exact HB.out)⟩

end Go.Proofs.YthhaikkicabplaaR.P
