/- Proved here: what the machine does at calls of the functions that the laws reach is what plain functions of the same names say, or a row of the given statement out of that. No conditions. Written by a program of this session over the printer of the kit. -/
import Derived.Test.YtffckkjaeekanaaBx0
import Derived.Test.YtffckkjaeekanaaBx1
import Derived.Test.YtffckkjaeekanaaBx3
import Derived.Test.YtffckkjaeekanaaBx7
namespace Go.Proofs.Ytffckkjaeekanaa.B
open Go.RowKit Go.Proofs.YtffckkjaeekanaaW.PrintWords Go.Proofs.YtffckkjaeekanaaW.PrintLast Go.Proofs.YtffckkjaeekanaaW.PrintMore
attribute [local go_sem] max2_int min2_int max_two min_two max_three min_three max_four min_four   -- for this text's walks alone
set_option linter.unusedVariables false
set_option linter.unusedSimpArgs false

/-! ### response_Most: function 16 -/
mutual
def response_Most.j0 : Nat → List (S39) → Int → List (S48) → Bool → Option (Int × Option Int)
 | 0, _, _, _, _ => none
 | k + 1, x0, x1, x2, x27 => if x27 = true then (some (0, some 1)) else (if 0 ≤ (x0.length : Int) then (if ((x0.length : Int) : Int).toNat ≤ 8796093022208 then ((copyrow.f (List.replicate ((x0.length : Int) : Int).toNat z39) x0).bind fun bt178 => (if 0 ≤ x1 then (if x1 < (x0.length : Int) then (response_Most.l0 k x1 x2 bt178.2 0 (wrap64 (((rd_T39 x0 x1).f2) + 1))) else (none)) else (none))) else (none)) else (none))
def response_Most.l0 : Nat → Int → List (S48) → List (S39) → Int → Int → Option (Int × Option Int)
 | 0, _, _, _, _, _ => none
 | k + 1, x1, x2, x9, x10, x11 => if (wrap64 (x10 + 1)) < x11 then (if 0 ≤ x1 then (if x1 < (x9.length : Int) then ((some (x9.set (x1 : Int).toNat (⟨(rd_T39 x9 x1).f0, wrap64 (x10 + (wrap64 (Int.tdiv (wrap64 (x11 - x10)) 2))), (rd_T39 x9 x1).f2, (rd_T39 x9 x1).f3⟩ : S39) : List (S39))).bind fun y181 => ((response_all.f k y181 x2).bind fun bt182 => (if bt182.2 = true then (response_Most.l0 k x1 x2 y181 ((rd_T39 y181 x1).f1) x11) else (response_Most.l0 k x1 x2 y181 x10 ((rd_T39 y181 x1).f1))))) else (none)) else (none)) else (if x10 = 0 then (some (0, some 220)) else (some (x10, none)))
end
def response_Most.f (k : Nat) (l0 : List (S39)) (a1 : Int) (l2 : List (S48)) : Option (Int × Option Int) := (response_check.f k l0 l2).bind fun t173 => (if t173.isNone = true then (if a1 < 0 then (response_Most.j0 k l0 a1 l2 true) else (response_Most.j0 k l0 a1 l2 (decide (a1 ≥ (l0.length : Int))))) else (some (0, some (t173.getD 0))))
theorem response_Most.mono_l : ∀ k, (∀ y0 y1 y2 y3, LeO (response_Most.j0 k y0 y1 y2 y3) (response_Most.j0 (k + 1) y0 y1 y2 y3)) ∧ (∀ y0 y1 y2 y3 y4, LeO (response_Most.l0 k y0 y1 y2 y3 y4) (response_Most.l0 (k + 1) y0 y1 y2 y3 y4))
 | 0 => ⟨fun _ _ _ _ r h => by simp [response_Most.j0] at h, fun _ _ _ _ _ r h => by simp [response_Most.l0] at h⟩
 | k + 1 => by
  obtain ⟨ih0, ih1⟩ := response_Most.mono_l k
  refine ⟨?_, ?_⟩
  ·intro y0 y1 y2 y3
   unfold response_Most.j0
   repeat' first
   | (with_reducible exact ih0 _ _ _ _)
   | (with_reducible exact ih1 _ _ _ _ _)
   | (with_reducible exact response_all.mono _ _ _)
   | (with_reducible exact response_check.mono _ _ _)
   | (with_reducible exact LeO.refl _)
   | (with_reducible exact LeO.none _)
   | (with_reducible refine LeO.ite ?_ ?_)
   | (with_reducible refine LeO.bind ?_ (fun _ => ?_))
   | exact ih0 _ _ _ _
   | exact ih1 _ _ _ _ _
   | exact response_all.mono _ _ _
   | exact response_check.mono _ _ _
   | exact LeO.none _
   | refine LeO.ite ?_ ?_
   | refine LeO.bind ?_ (fun _ => ?_)
  ·intro y0 y1 y2 y3 y4
   unfold response_Most.l0
   repeat' first
   | (with_reducible exact ih0 _ _ _ _)
   | (with_reducible exact ih1 _ _ _ _ _)
   | (with_reducible exact response_all.mono _ _ _)
   | (with_reducible exact response_check.mono _ _ _)
   | (with_reducible exact LeO.refl _)
   | (with_reducible exact LeO.none _)
   | (with_reducible refine LeO.ite ?_ ?_)
   | (with_reducible refine LeO.bind ?_ (fun _ => ?_))
   | exact ih0 _ _ _ _
   | exact ih1 _ _ _ _ _
   | exact response_all.mono _ _ _
   | exact response_check.mono _ _ _
   | exact LeO.none _
   | refine LeO.ite ?_ ?_
   | refine LeO.bind ?_ (fun _ => ?_)
theorem response_Most.mono : ∀ a0 a1 a2 k, LeO (response_Most.f k a0 a1 a2) (response_Most.f (k + 1) a0 a1 a2) := by
 intro a0 a1 a2 k
 obtain ⟨ih0, ih1⟩ := response_Most.mono_l k
 unfold response_Most.f
 repeat' first
   | (with_reducible exact ih0 _ _ _ _)
   | (with_reducible exact ih1 _ _ _ _ _)
   | (with_reducible exact response_all.mono _ _ _)
   | (with_reducible exact response_check.mono _ _ _)
   | (with_reducible exact LeO.refl _)
   | (with_reducible exact LeO.none _)
   | (with_reducible refine LeO.ite ?_ ?_)
   | (with_reducible refine LeO.bind ?_ (fun _ => ?_))
   | exact ih0 _ _ _ _
   | exact ih1 _ _ _ _ _
   | exact response_all.mono _ _ _
   | exact response_check.mono _ _ _
   | exact LeO.none _
   | refine LeO.ite ?_ ?_
   | refine LeO.bind ?_ (fun _ => ?_)
set_option maxHeartbeats 8000000 in
set_option maxRecDepth 100000 in
theorem response_Most.calls (k : Nat) (A0 : Option Addr) (c0 : Nat) (l0 : List (S39)) (a1 : Int) (A2 : Option Addr) (c2 : Nat) (l2 : List (S48)) (r1 : Int) (r2 : Option Int) (w : World) (hr0 : Kd.C k39 w A0 l0.length l0) (hc0 : l0.length ≤ c0) (hr2 : Kd.C k48 w A2 l2.length l2) (hc2 : l2.length ≤ c2) (h : response_Most.f k l0 a1 l2 = some (r1, r2)) :
  Calls Try.prog 16 #[.slice A0 l0.length c0, .int .i64 a1, .slice A2 l2.length c2] w fun e w' => e = .returned (.tuple #[.int .i64 r1, errW r2]) ∧ Below w.heap.size w w' := by
 have hu26 := Try.underlying26
 have hu51 := Try.underlying51
 have HR0 := Aside0.mk hr0
 have HC0 := Aside0.mk hc0
 clear hr0 hc0
 have HR2 := Aside0.mk hr2
 have HC2 := Aside0.mk hc2
 clear hr2 hc2
 have HB := Aside0.mk (Below.refl w.heap.size w)
 have H : ((response_check.f k l0 l2).bind fun t173 => (if t173.isNone = true then (if a1 < 0 then (response_Most.j0 k l0 a1 l2 true) else (response_Most.j0 k l0 a1 l2 (decide (a1 ≥ (l0.length : Int))))) else (some (0, some (t173.getD 0))))) = some (r1, r2) := h
 clear h
 replace H := Option.bind_eq_some_iff.mp H
 obtain ⟨t173, A40, H⟩ := H
 replace H : (if t173.isNone = true then (if a1 < 0 then (response_Most.j0 k l0 a1 l2 true) else (response_Most.j0 k l0 a1 l2 (decide (a1 ≥ (l0.length : Int))))) else (some (0, some (t173.getD 0)))) = some (r1, r2) := H
 have A4 := Aside0.mk A40
 clear A40
 rcases t173 with _ | q174
 ·have H1 : (if a1 < 0 then (response_Most.j0 k l0 a1 l2 true) else (response_Most.j0 k l0 a1 l2 (decide (a1 ≥ (l0.length : Int))))) = some (r1, r2) := by rw [if_pos (show (none : Option Int).isNone = true by rfl)] at H; exact H
  clear H
  have H := H1
  clear H1
  try simp only [errW_none, errW_some]
  have HC5 := Aside0.mk H
  clear H
  go_enter Try.func16, Try.ntmps16
  go_upto_region 4 with (first | (go_at_call 17; (with_reducible refine (response_check.calls k _ _ l0 _ _ l2 none _ ?side1 ?side2 ?side3 ?side4 A4.out).mono ?_); (case side1 => repeat (first | exact HR0.out | (with_reducible refine Kd.C_alloc ?_ _) | (with_reducible refine Kd.C_drewN ?_ _) | (with_reducible refine Kd.C_drew ?_))); (case side2 => exact HC0.out); (case side3 => repeat (first | exact HR2.out | (with_reducible refine Kd.C_alloc ?_ _) | (with_reducible refine Kd.C_drewN ?_ _) | (with_reducible refine Kd.C_drew ?_))); (case side4 => exact HC2.out); rintro e w6 ⟨rfl, hb⟩; have n0_ := Aside0.mk (below_step (by repeat (first | (with_reducible first | exact HB.out | apply below_alloc | apply pw_below_drewN | apply below_drew1) | exact HB.out)) hb); clear HB; have HB := n0_; clear n0_; (try clear hb); (try clear hb2); (try clear hk); (try clear hi); (try simp only [errW_none, errW_some])))
  repeat (go_quiet (first | (go_at_call 17; (with_reducible refine (response_check.calls k _ _ l0 _ _ l2 none _ ?side1 ?side2 ?side3 ?side4 A4.out).mono ?_); (case side1 => repeat (first | exact HR0.out | (with_reducible refine Kd.C_alloc ?_ _) | (with_reducible refine Kd.C_drewN ?_ _) | (with_reducible refine Kd.C_drew ?_))); (case side2 => exact HC0.out); (case side3 => repeat (first | exact HR2.out | (with_reducible refine Kd.C_alloc ?_ _) | (with_reducible refine Kd.C_drewN ?_ _) | (with_reducible refine Kd.C_drew ?_))); (case side4 => exact HC2.out); rintro e w6 ⟨rfl, hb⟩; have n0_ := Aside0.mk (below_step (by repeat (first | (with_reducible first | exact HB.out | apply below_alloc | apply pw_below_drewN | apply below_drew1) | exact HB.out)) hb); clear HB; have HB := n0_; clear n0_; (try clear hb); (try clear hb2); (try clear hk); (try clear hi); (try simp only [errW_none, errW_some]))); go_upto_region 4 with (first | (go_at_call 17; (with_reducible refine (response_check.calls k _ _ l0 _ _ l2 none _ ?side1 ?side2 ?side3 ?side4 A4.out).mono ?_); (case side1 => repeat (first | exact HR0.out | (with_reducible refine Kd.C_alloc ?_ _) | (with_reducible refine Kd.C_drewN ?_ _) | (with_reducible refine Kd.C_drew ?_))); (case side2 => exact HC0.out); (case side3 => repeat (first | exact HR2.out | (with_reducible refine Kd.C_alloc ?_ _) | (with_reducible refine Kd.C_drewN ?_ _) | (with_reducible refine Kd.C_drew ?_))); (case side4 => exact HC2.out); rintro e w6 ⟨rfl, hb⟩; have n0_ := Aside0.mk (below_step (by repeat (first | (with_reducible first | exact HB.out | apply below_alloc | apply pw_below_drewN | apply below_drew1) | exact HB.out)) hb); clear HB; have HB := n0_; clear n0_; (try clear hb); (try clear hb2); (try clear hk); (try clear hi); (try simp only [errW_none, errW_some]))))
  (try simp only [Act.put, List.setIfInBounds_toArray, List.set_cons_zero, List.set_cons_succ])
  go_cut [27] (fun v27 wc => ∃ (kq : Nat) (x27_4 : Bool), v27 = .bool x27_4 ∧ Aside0 (response_Most.j0 kq l0 a1 l2 x27_4 = some (r1, r2)) ∧ Aside0 (kq ≤ k) ∧ Aside0 (Below w.heap.size w wc))
  case first =>
   have H := HC5.out
   clear HC5
   by_cases c7 : a1 < 0
   ·rw [if_pos c7] at H
    have c7b0 : decide (a1 < 0) = true := decide_eq_true c7
    clear c7
    (first | rw [c7b0] | (simp only [i64_w, i32_w]; rw [c7b0]) | skip)
    have H' := Aside0.mk H
    clear H
    go_wp2
    repeat (go_quiet (fail); try go_wp2)
    go_meet
    case rel => exact ⟨_, (true), (by first | rfl | (simp; done) | (simp [*]; done)), H', ⟨by first | omega | exact Nat.le_refl _⟩, ⟨by repeat (first | (with_reducible first | exact HB.out | apply below_alloc | apply pw_below_drewN | apply below_drew1) | exact HB.out)⟩⟩
   ·rw [if_neg c7] at H
    have c7b0 : decide (a1 < 0) = false := decide_eq_false c7
    clear c7
    (first | rw [c7b0] | (simp only [i64_w, i32_w]; rw [c7b0]) | skip)
    have H' := Aside0.mk H
    clear H
    go_wp2
    repeat (go_quiet (fail); try go_wp2)
    go_meet
    case rel => exact ⟨_, (decide (a1 ≥ (l0.length : Int))), (by first | rfl | (simp; done) | (simp [*]; done)), H', ⟨by first | omega | exact Nat.le_refl _⟩, ⟨by repeat (first | (with_reducible first | exact HB.out | apply below_alloc | apply pw_below_drewN | apply below_drew1) | exact HB.out)⟩⟩
  case rest =>
   clear HC5
   try clear c1
   try clear q1
   try clear c2
   try clear p2
   try clear c7
   try clear c7b0
   try clear q174
   obtain ⟨kq, x27_4, rfl, HA, HJ4, HB⟩ := hcut
   cases kq with
   | zero => exact absurd HA.out (by simp [response_Most.j0])
   | succ kj4 =>
    have H := HA.out
    clear HA
    simp only [response_Most.j0] at H
    by_cases c8 : x27_4 = true
    ·subst c8
     have H1 : (some (0, some 1)) = some (r1, r2) := by rw [if_pos rfl] at H; exact H
     clear H
     have H := H1
     clear H1
     simp only [Option.some.injEq, Prod.mk.injEq] at H
     obtain ⟨rfl, rfl⟩ := H
     go_wp2
     repeat (go_quiet (fail); try go_wp2)
     go_ret2
     exact ⟨by first | rfl | (simp [errW_none, errW_some] <;> rfl) | (simp [*, errW_none, errW_some] <;> rfl), by repeat (first | (with_reducible first | exact HB.out | apply below_alloc | apply pw_below_drewN | apply below_drew1) | exact HB.out)⟩
    ·replace c8 := Bool.eq_false_iff.mpr c8
     subst c8
     have H1 : (if 0 ≤ (l0.length : Int) then (if ((l0.length : Int) : Int).toNat ≤ 8796093022208 then ((copyrow.f (List.replicate ((l0.length : Int) : Int).toNat z39) l0).bind fun bt178 => (if 0 ≤ a1 then (if a1 < (l0.length : Int) then (response_Most.l0 kj4 a1 l2 bt178.2 0 (wrap64 (((rd_T39 l0 a1).f2) + 1))) else (none)) else (none))) else (none)) else (none)) = some (r1, r2) := by rw [if_neg (show ¬ (false = true) by decide)] at H; exact H
     clear H
     have H := H1
     clear H1
     by_cases c9 : 0 ≤ (l0.length : Int)
     ·rw [if_pos c9] at H
      have c9b0 := eq_true c9
      have c9b1 : decide (0 ≤ (l0.length : Int)) = true := decide_eq_true c9
      clear c9
      by_cases c10 : ((l0.length : Int) : Int).toNat ≤ 8796093022208
      ·rw [if_pos c10] at H
       have c10b0 := eq_true c10
       have c10b1 : decide (((l0.length : Int) : Int).toNat ≤ 8796093022208) = true := decide_eq_true c10
       clear c10
       obtain ⟨y175, hy175⟩ : ∃ y_ : List (S39), y_ = (List.replicate ((l0.length : Int) : Int).toNat z39) := ⟨_, rfl⟩
       replace H : ((copyrow.f y175 l0).bind fun bt178 => (if 0 ≤ a1 then (if a1 < (l0.length : Int) then (response_Most.l0 kj4 a1 l2 bt178.2 0 (wrap64 (((rd_T39 l0 a1).f2) + 1))) else (none)) else (none))) = some (r1, r2) := by first | (rw [hy175]; with_reducible exact H) | (have H2_ := (Option.bind_some _ _).symm.trans H; rw [hy175]; with_reducible exact H2_) | (have H2_ := (Option.bind_some _ _).symm.trans H; with_reducible exact H2_) | with_reducible exact H | (rw [hy175]; exact H) | exact H
       have Ny175 := Aside0.mk hy175
       clear hy175
       replace H := Option.bind_eq_some_iff.mp H
       obtain ⟨⟨t178, t179⟩, A110, H⟩ := H
       replace H : (if 0 ≤ a1 then (if a1 < (l0.length : Int) then (response_Most.l0 kj4 a1 l2 t179 0 (wrap64 (((rd_T39 l0 a1).f2) + 1))) else (none)) else (none)) = some (r1, r2) := H
       have A11 := Aside0.mk A110
       clear A110
       by_cases c12 : 0 ≤ a1
       ·rw [if_pos c12] at H
        have c12b0 : decide (0 ≤ a1) = true := decide_eq_true c12
        clear c12
        by_cases c13 : a1 < (l0.length : Int)
        ·rw [if_pos c13] at H
         have c13b0 : decide (a1 < (l0.length : Int)) = true := decide_eq_true c13
         clear c13
         have H' := Aside0.mk H
         clear H
         go_wp2_with (first | ((with_reducible refine gate_dst (N := 31) rfl ?_); (try (refine gate_guard (by rfl) ?_; dsimp only)); refine Kd.R_make k39 _ 39 rfl (N := 31) rfl 22 _ _ rfl (l0.length : Int) rfl rfl Try.underlying22 (.agg #[(.int .i64 0), (.int .i64 0), (.int .i64 0), (.int .i64 0)]) 32 info39 rfl (by decide) (by omega) z39 (ok := fun _ => True) (okp := fun _ => True) (k39_mkM _ _ _ z39 ) (fun _ hk => hk) trivial (of_decide_eq_true (by first | (with_reducible assumption) | assumption)) (Nat.le_trans (Nat.mul_le_mul_right _ (of_decide_eq_true (by first | (with_reducible assumption) | assumption) : (l0.length : Int).toNat ≤ 8796093022208)) (by omega)) (Below.refl _ _) (Nat.le_refl _) ?_; intro v176 w14 ho15 hb hg_ hnew_; clear hg_ hnew_; (first | rw [← Ny175.out] at ho15 | (simp only [Int.reduceToNat] at ho15; rw [← Ny175.out] at ho15)); have n0_ := Aside0.mk (Kd.R_lower ho15 (below_size (by repeat (first | (with_reducible first | exact HB.out | apply below_alloc | apply pw_below_drewN | apply below_drew1) | exact HB.out)))); have n1_ := Aside0.mk (below_step (by repeat (first | (with_reducible first | exact HB.out | apply below_alloc | apply pw_below_drewN | apply below_drew1) | exact HB.out)) hb); clear HB; have HO177 := n0_; have HB := n1_; clear n0_ n1_; clear hb ho15; obtain ⟨Ao16, co16, eo16⟩ := Kd.R_slice HO177.out; subst eo16) | ((with_reducible refine gate_builtin (b := .copy) rfl ?_); refine copyL_ rfl ?_; (refine (copyrow.calls (fun k_ => some k_ = (.slice Ao16 y175.length co16 : Value).ownBlock) (.slice Ao16 y175.length co16) y175 _ _ l0 t178 t179 w _ ?side1 ?side2 ?side3 ?side4 A11.out rfl rfl rfl).mono ?_); (case side1 => repeat (first | (with_reducible first | exact HB.out | apply below_alloc | apply pw_below_drewN | apply below_drew1) | exact HB.out)); (case side2 => exact Kd.R_tight rfl HO177.out); (case side3 => exact Kd.C_kept_came k39_heap HR0.out (by repeat (first | (with_reducible first | exact HB.out | apply below_alloc | apply pw_below_drewN | apply below_drew1) | exact HB.out)) (fun k_ hs_ => (fun e_ => Kd.R_base HO177.out k_ e_.symm) hs_)); (case side4 => exact HC0.out); rintro e w17 ⟨rfl, hy0, hb, hkp⟩; refine ⟨_, rfl, ?_⟩; have n0_ := Aside0.mk (Kd.R_reok rfl hy0 (fun k_ e_ => HO177.out.1 k_ e_)); have n1_ := Aside0.mk (hb); clear HO177; clear HB; have HO177 := n0_; have HB := n1_; clear n0_ n1_; (try clear hb); (try clear hkp); (try clear hy0); have p180 : 0 ≤ (a1 : Int) := of_decide_eq_true (by first | (with_reducible assumption) | assumption); have q180 : a1 < (l0.length : Int) := of_decide_eq_true (by first | (with_reducible assumption) | assumption); obtain ⟨ad180, e180, hx180_0, hx180_1, hx180_2, hx180_3⟩ := at_T39 HR0.out a1 p180 q180; cases e180; replace hx180_0 := (HB.out.cell (World.block_lt_of_cell? w _ hx180_0)).trans hx180_0; replace hx180_1 := (HB.out.cell (World.block_lt_of_cell? w _ hx180_1)).trans hx180_1; replace hx180_2 := (HB.out.cell (World.block_lt_of_cell? w _ hx180_2)).trans hx180_2; replace hx180_3 := (HB.out.cell (World.block_lt_of_cell? w _ hx180_3)).trans hx180_3; replace p180 := eq_true p180; replace q180 := eq_true q180))
         repeat (go_quiet (first | ((with_reducible refine gate_dst (N := 31) rfl ?_); (try (refine gate_guard (by rfl) ?_; dsimp only)); refine Kd.R_make k39 _ 39 rfl (N := 31) rfl 22 _ _ rfl (l0.length : Int) rfl rfl Try.underlying22 (.agg #[(.int .i64 0), (.int .i64 0), (.int .i64 0), (.int .i64 0)]) 32 info39 rfl (by decide) (by omega) z39 (ok := fun _ => True) (okp := fun _ => True) (k39_mkM _ _ _ z39 ) (fun _ hk => hk) trivial (of_decide_eq_true (by first | (with_reducible assumption) | assumption)) (Nat.le_trans (Nat.mul_le_mul_right _ (of_decide_eq_true (by first | (with_reducible assumption) | assumption) : (l0.length : Int).toNat ≤ 8796093022208)) (by omega)) (Below.refl _ _) (Nat.le_refl _) ?_; intro v176 w14 ho15 hb hg_ hnew_; clear hg_ hnew_; (first | rw [← Ny175.out] at ho15 | (simp only [Int.reduceToNat] at ho15; rw [← Ny175.out] at ho15)); have n0_ := Aside0.mk (Kd.R_lower ho15 (below_size (by repeat (first | (with_reducible first | exact HB.out | apply below_alloc | apply pw_below_drewN | apply below_drew1) | exact HB.out)))); have n1_ := Aside0.mk (below_step (by repeat (first | (with_reducible first | exact HB.out | apply below_alloc | apply pw_below_drewN | apply below_drew1) | exact HB.out)) hb); clear HB; have HO177 := n0_; have HB := n1_; clear n0_ n1_; clear hb ho15; obtain ⟨Ao16, co16, eo16⟩ := Kd.R_slice HO177.out; subst eo16) | ((with_reducible refine gate_builtin (b := .copy) rfl ?_); refine copyL_ rfl ?_; (refine (copyrow.calls (fun k_ => some k_ = (.slice Ao16 y175.length co16 : Value).ownBlock) (.slice Ao16 y175.length co16) y175 _ _ l0 t178 t179 w _ ?side1 ?side2 ?side3 ?side4 A11.out rfl rfl rfl).mono ?_); (case side1 => repeat (first | (with_reducible first | exact HB.out | apply below_alloc | apply pw_below_drewN | apply below_drew1) | exact HB.out)); (case side2 => exact Kd.R_tight rfl HO177.out); (case side3 => exact Kd.C_kept_came k39_heap HR0.out (by repeat (first | (with_reducible first | exact HB.out | apply below_alloc | apply pw_below_drewN | apply below_drew1) | exact HB.out)) (fun k_ hs_ => (fun e_ => Kd.R_base HO177.out k_ e_.symm) hs_)); (case side4 => exact HC0.out); rintro e w17 ⟨rfl, hy0, hb, hkp⟩; refine ⟨_, rfl, ?_⟩; have n0_ := Aside0.mk (Kd.R_reok rfl hy0 (fun k_ e_ => HO177.out.1 k_ e_)); have n1_ := Aside0.mk (hb); clear HO177; clear HB; have HO177 := n0_; have HB := n1_; clear n0_ n1_; (try clear hb); (try clear hkp); (try clear hy0); have p180 : 0 ≤ (a1 : Int) := of_decide_eq_true (by first | (with_reducible assumption) | assumption); have q180 : a1 < (l0.length : Int) := of_decide_eq_true (by first | (with_reducible assumption) | assumption); obtain ⟨ad180, e180, hx180_0, hx180_1, hx180_2, hx180_3⟩ := at_T39 HR0.out a1 p180 q180; cases e180; replace hx180_0 := (HB.out.cell (World.block_lt_of_cell? w _ hx180_0)).trans hx180_0; replace hx180_1 := (HB.out.cell (World.block_lt_of_cell? w _ hx180_1)).trans hx180_1; replace hx180_2 := (HB.out.cell (World.block_lt_of_cell? w _ hx180_2)).trans hx180_2; replace hx180_3 := (HB.out.cell (World.block_lt_of_cell? w _ hx180_3)).trans hx180_3; replace p180 := eq_true p180; replace q180 := eq_true q180)); try go_wp2_with (first | ((with_reducible refine gate_dst (N := 31) rfl ?_); (try (refine gate_guard (by rfl) ?_; dsimp only)); refine Kd.R_make k39 _ 39 rfl (N := 31) rfl 22 _ _ rfl (l0.length : Int) rfl rfl Try.underlying22 (.agg #[(.int .i64 0), (.int .i64 0), (.int .i64 0), (.int .i64 0)]) 32 info39 rfl (by decide) (by omega) z39 (ok := fun _ => True) (okp := fun _ => True) (k39_mkM _ _ _ z39 ) (fun _ hk => hk) trivial (of_decide_eq_true (by first | (with_reducible assumption) | assumption)) (Nat.le_trans (Nat.mul_le_mul_right _ (of_decide_eq_true (by first | (with_reducible assumption) | assumption) : (l0.length : Int).toNat ≤ 8796093022208)) (by omega)) (Below.refl _ _) (Nat.le_refl _) ?_; intro v176 w14 ho15 hb hg_ hnew_; clear hg_ hnew_; (first | rw [← Ny175.out] at ho15 | (simp only [Int.reduceToNat] at ho15; rw [← Ny175.out] at ho15)); have n0_ := Aside0.mk (Kd.R_lower ho15 (below_size (by repeat (first | (with_reducible first | exact HB.out | apply below_alloc | apply pw_below_drewN | apply below_drew1) | exact HB.out)))); have n1_ := Aside0.mk (below_step (by repeat (first | (with_reducible first | exact HB.out | apply below_alloc | apply pw_below_drewN | apply below_drew1) | exact HB.out)) hb); clear HB; have HO177 := n0_; have HB := n1_; clear n0_ n1_; clear hb ho15; obtain ⟨Ao16, co16, eo16⟩ := Kd.R_slice HO177.out; subst eo16) | ((with_reducible refine gate_builtin (b := .copy) rfl ?_); refine copyL_ rfl ?_; (refine (copyrow.calls (fun k_ => some k_ = (.slice Ao16 y175.length co16 : Value).ownBlock) (.slice Ao16 y175.length co16) y175 _ _ l0 t178 t179 w _ ?side1 ?side2 ?side3 ?side4 A11.out rfl rfl rfl).mono ?_); (case side1 => repeat (first | (with_reducible first | exact HB.out | apply below_alloc | apply pw_below_drewN | apply below_drew1) | exact HB.out)); (case side2 => exact Kd.R_tight rfl HO177.out); (case side3 => exact Kd.C_kept_came k39_heap HR0.out (by repeat (first | (with_reducible first | exact HB.out | apply below_alloc | apply pw_below_drewN | apply below_drew1) | exact HB.out)) (fun k_ hs_ => (fun e_ => Kd.R_base HO177.out k_ e_.symm) hs_)); (case side4 => exact HC0.out); rintro e w17 ⟨rfl, hy0, hb, hkp⟩; refine ⟨_, rfl, ?_⟩; have n0_ := Aside0.mk (Kd.R_reok rfl hy0 (fun k_ e_ => HO177.out.1 k_ e_)); have n1_ := Aside0.mk (hb); clear HO177; clear HB; have HO177 := n0_; have HB := n1_; clear n0_ n1_; (try clear hb); (try clear hkp); (try clear hy0); have p180 : 0 ≤ (a1 : Int) := of_decide_eq_true (by first | (with_reducible assumption) | assumption); have q180 : a1 < (l0.length : Int) := of_decide_eq_true (by first | (with_reducible assumption) | assumption); obtain ⟨ad180, e180, hx180_0, hx180_1, hx180_2, hx180_3⟩ := at_T39 HR0.out a1 p180 q180; cases e180; replace hx180_0 := (HB.out.cell (World.block_lt_of_cell? w _ hx180_0)).trans hx180_0; replace hx180_1 := (HB.out.cell (World.block_lt_of_cell? w _ hx180_1)).trans hx180_1; replace hx180_2 := (HB.out.cell (World.block_lt_of_cell? w _ hx180_2)).trans hx180_2; replace hx180_3 := (HB.out.cell (World.block_lt_of_cell? w _ hx180_3)).trans hx180_3; replace p180 := eq_true p180; replace q180 := eq_true q180)))
         go_loopg [10, 11] kj4 (fun kq v10 v11 w' => ∃ (x9_2 : List (S39)) (x10_2 : Int) (x11_2 : Int), v10 = .int .i64 x10_2 ∧ v11 = .int .i64 x11_2 ∧ Aside0 (response_Most.l0 kq a1 l2 x9_2 x10_2 x11_2 = some (r1, r2)) ∧ Aside0 (kq ≤ kj4) ∧ Aside0 (Kd.R k39 39 w' w.heap.size (fun _ => True) (.slice Ao16 y175.length co16) x9_2) ∧ Aside0 (Below w.heap.size w w'))
         case atStart => exact ⟨(t179), (0), (wrap64 (((rd_T39 l0 a1).f2) + 1)), (by first | rfl | (simp; done) | (simp [*]; done) | (congr 1; exact IntWalk.i64_left _)), (by first | rfl | (simp; done) | (simp [*]; done) | (congr 1; exact IntWalk.i64_left _)), H', ⟨Nat.le_refl _⟩, ⟨by (with_reducible repeat (first | apply Kd.R_alloc | apply Kd.R_drewN | apply Kd.R_drew)); exact HO177.out⟩, ⟨by repeat (first | (with_reducible first | exact HB.out | apply below_alloc | apply pw_below_drewN | apply below_drew1) | exact HB.out)⟩⟩
         case round =>
          clear H'
          try clear c1
          try clear p1
          try clear q1
          try clear hx1
          try clear c2
          try clear p2
          try clear p6
          try clear c7
          try clear c7b0
          try clear c8
          try clear c9
          try clear c9b0
          try clear c9b1
          try clear c10
          try clear c10b0
          try clear c10b1
          try clear c12
          try clear c12b0
          try clear c13
          try clear c13b0
          try clear c16
          try clear q17
          try clear hx180_0
          try clear hx180_1
          try clear hx180_2
          try clear hx180_3
          try clear p180
          try clear p2
          try clear q1
          try clear q174
          try clear q180
          obtain ⟨x9_2, x10_2, x11_2, rfl, rfl, HA, HK2, HO_9, HB⟩ := hrel
          have hl9_2 := (Kd.R_reads' HO_9.out).1
          rw [hl9_2] at HO_9
          (try simp only [hl9_2])
          cases gk with
          | zero => exact absurd HA.out (by simp [response_Most.l0])
          | succ k2 =>
           have H := HA.out
           clear HA
           simp only [response_Most.l0] at H
           by_cases c18 : (wrap64 (x10_2 + 1)) < x11_2
           ·rw [if_pos c18] at H
            have c18b0 : decide ((wrap64 (x10_2 + 1)) < x11_2) = true := decide_eq_true c18
            clear c18
            by_cases c19 : 0 ≤ a1
            ·rw [if_pos c19] at H
             have c19b0 : decide (0 ≤ a1) = true := decide_eq_true c19
             clear c19
             by_cases c20 : a1 < (x9_2.length : Int)
             ·rw [if_pos c20] at H
              have c20b0 : decide (a1 < (x9_2.length : Int)) = true := decide_eq_true c20
              (try (have c20b7_0 := c20b0; rw [hl9_2] at c20b7_0))
              clear c20
              obtain ⟨y181, hy181⟩ : ∃ y_ : List (S39), y_ = (x9_2.set (a1 : Int).toNat (⟨(rd_T39 x9_2 a1).f0, wrap64 (x10_2 + (wrap64 (Int.tdiv (wrap64 (x11_2 - x10_2)) 2))), (rd_T39 x9_2 a1).f2, (rd_T39 x9_2 a1).f3⟩ : S39)) := ⟨_, rfl⟩
              replace H : ((response_all.f k2 y181 l2).bind fun bt182 => (if bt182.2 = true then (response_Most.l0 k2 a1 l2 y181 ((rd_T39 y181 a1).f1) x11_2) else (response_Most.l0 k2 a1 l2 y181 x10_2 ((rd_T39 y181 a1).f1)))) = some (r1, r2) := by first | (rw [hy181]; with_reducible exact H) | (have H2_ := (Option.bind_some _ _).symm.trans H; rw [hy181]; with_reducible exact H2_) | (have H2_ := (Option.bind_some _ _).symm.trans H; with_reducible exact H2_) | with_reducible exact H | (rw [hy181]; exact H) | exact H
              have Ny181 := Aside0.mk hy181
              clear hy181
              replace H := Option.bind_eq_some_iff.mp H
              obtain ⟨⟨t182, t183⟩, A220, H⟩ := H
              replace H : (if t183 = true then (response_Most.l0 k2 a1 l2 y181 ((rd_T39 y181 a1).f1) x11_2) else (response_Most.l0 k2 a1 l2 y181 x10_2 ((rd_T39 y181 a1).f1))) = some (r1, r2) := H
              have A22 := Aside0.mk A220
              clear A220
              by_cases c23 : t183 = true
              ·subst c23
               have H1 : (response_Most.l0 k2 a1 l2 y181 ((rd_T39 y181 a1).f1) x11_2) = some (r1, r2) := by rw [if_pos rfl] at H; exact H
               clear H
               have H := H1
               clear H1
               have H' := Aside0.mk H
               clear H
               have p21 : 0 ≤ (a1 : Int) := of_decide_eq_true (by first | (with_reducible assumption) | assumption)
               have q21 : (a1 : Int) < ((x9_2.length : Int) : Int) := of_decide_eq_true (by first | (with_reducible assumption) | assumption)
               obtain ⟨go21, co21, eo21, gb21, gl21, cl21, HG21⟩ := Kd.R_form HO_9.out (by omega)
               (first | cases eo21 | (injection eo21 with ea_ en_ ec_; (first | subst ea_ | (injection ea_ with ea_; subst ea_)); subst ec_; clear en_))
               have GB21 := Aside0.mk gb21
               have GG21 := Aside0.mk HG21
               clear gb21 gl21 HG21
               obtain ⟨ce21, hcl21, hM21, hcc21, hfr21⟩ := Kd.R_elem HO_9.out z39 (a1 : Int) p21 q21
               obtain rfl := k39_openM hM21
               have hx21_0 : wr.cell? ⟨go21, (a1 : Int).toNat * 4, none⟩ = some (.int .i64 ((rd_T39 x9_2 a1).f0)) := hcc21 0 _ rfl
               have hx21_1 : wr.cell? ⟨go21, (a1 : Int).toNat * 4 + 1, none⟩ = some (.int .i64 ((rd_T39 x9_2 a1).f1)) := hcc21 1 _ rfl
               have hx21_2 : wr.cell? ⟨go21, (a1 : Int).toNat * 4 + 2, none⟩ = some (.int .i64 ((rd_T39 x9_2 a1).f2)) := hcc21 2 _ rfl
               have hx21_3 : wr.cell? ⟨go21, (a1 : Int).toNat * 4 + 3, none⟩ = some (.int .i64 ((rd_T39 x9_2 a1).f3)) := hcc21 3 _ rfl
               have hf21_0 : wr.frozen? ⟨go21, (a1 : Int).toNat * 4, none⟩ = false := hfr21 0
               have hf21_1 : wr.frozen? ⟨go21, (a1 : Int).toNat * 4 + 1, none⟩ = false := hfr21 1
               have hf21_2 : wr.frozen? ⟨go21, (a1 : Int).toNat * 4 + 2, none⟩ = false := hfr21 2
               have hf21_3 : wr.frozen? ⟨go21, (a1 : Int).toNat * 4 + 3, none⟩ = false := hfr21 3
               clear hcl21 hcc21 hfr21 hM21
               replace p21 := eq_true p21
               replace q21 := eq_true q21
               have HX24 := Aside0.mk (show Kd.R k39 39 wr w.heap.size (fun _ => True) (.slice (some ⟨go21, 0, none⟩) x9_2.length co16) x9_2 from (by (with_reducible repeat (first | apply Kd.R_alloc | apply Kd.R_drewN | apply Kd.R_drew)); exact HO_9.out))
               obtain ⟨ce24, hcl24, hM24, hcc24, hfr24⟩ := Kd.R_elem HX24.out z39 (a1 : Int) (of_decide_eq_true (by first | (with_reducible assumption) | assumption)) (by have h_ : (a1 : Int) < ((x9_2.length : Int) : Int) := of_decide_eq_true (by first | (with_reducible assumption) | assumption); first | exact h_ | (have e_ := (Kd.R_reads' HO_9.out).1; omega) | (simp; done) | simpa using h_)
               obtain rfl := k39_openM hM24
               have HP24 := Kd.R_seg HX24.out (a1 : Int) (of_decide_eq_true (by first | (with_reducible assumption) | assumption)) (by have h_ : (a1 : Int) < ((x9_2.length : Int) : Int) := of_decide_eq_true (by first | (with_reducible assumption) | assumption); first | exact h_ | (have e_ := (Kd.R_reads' HO_9.out).1; omega) | (simp; done) | simpa using h_) (seg := [.int .i64 (wrap64 (x10_2 + (wrap64 (Int.tdiv (wrap64 (x11_2 - x10_2)) 2))))]) (j := 1) hcl24 hcc24 (show 2 ≤ 4 from by decide) (x' := (⟨(rd_T39 x9_2 a1).f0, wrap64 (x10_2 + (wrap64 (Int.tdiv (wrap64 (x11_2 - x10_2)) 2))), (rd_T39 x9_2 a1).f2, (rd_T39 x9_2 a1).f3⟩ : S39)) (k39_mkM _ _ _ (⟨(rd_T39 x9_2 a1).f0, wrap64 (x10_2 + (wrap64 (Int.tdiv (wrap64 (x11_2 - x10_2)) 2))), (rd_T39 x9_2 a1).f2, (rd_T39 x9_2 a1).f3⟩ : S39) ) (fun _ hk => hk)
               have hx24_1 := hcc24 1 _ rfl
               (try simp only [show (k39).sz = 4 from rfl, Nat.mul_one, Nat.add_zero] at hx24_1)
               have hf24_1 := hfr24 1
               (try simp only [show (k39).sz = 4 from rfl, Nat.mul_one, Nat.add_zero] at hf24_1)
               clear hcl24 hcc24 hfr24 hM24
               go_wp2_with (first | ((with_reducible refine gate_store (t := 3) (p := 54) rfl ?_); (try (rw [drewN_self wr]; generalize hq_ : World.drewN wr _ = wr; have n0_ := Aside0.mk (Kd.R_at hq_ HO_9.out); have n1_ := Aside0.mk (below_at hq_ HB.out); clear hq_ HO_9 HB; have HO_9 := n0_; have HB := n1_; clear n0_ n1_; (try (have HX24 := Aside0.mk (show Kd.R k39 39 wr w.heap.size (fun _ => True) (.slice (some ⟨go21, 0, none⟩) x9_2.length co16) x9_2 from (by (with_reducible repeat (first | apply Kd.R_alloc | apply Kd.R_drewN | apply Kd.R_drew)); exact HO_9.out)))); (try (obtain ⟨ce24, hcl24, hM24, hcc24, hfr24⟩ := Kd.R_elem HX24.out z39 (a1 : Int) (of_decide_eq_true (by first | (with_reducible assumption) | assumption)) (by have h_ : (a1 : Int) < ((x9_2.length : Int) : Int) := of_decide_eq_true (by first | (with_reducible assumption) | assumption); first | exact h_ | (have e_ := (Kd.R_reads' HO_9.out).1; omega) | (simp; done) | simpa using h_))); (try (obtain rfl := k39_openM hM24)); (try (have HP24 := Kd.R_seg HX24.out (a1 : Int) (of_decide_eq_true (by first | (with_reducible assumption) | assumption)) (by have h_ : (a1 : Int) < ((x9_2.length : Int) : Int) := of_decide_eq_true (by first | (with_reducible assumption) | assumption); first | exact h_ | (have e_ := (Kd.R_reads' HO_9.out).1; omega) | (simp; done) | simpa using h_) (seg := [.int .i64 (wrap64 (x10_2 + (wrap64 (Int.tdiv (wrap64 (x11_2 - x10_2)) 2))))]) (j := 1) hcl24 hcc24 (show 2 ≤ 4 from by decide) (x' := (⟨(rd_T39 x9_2 a1).f0, wrap64 (x10_2 + (wrap64 (Int.tdiv (wrap64 (x11_2 - x10_2)) 2))), (rd_T39 x9_2 a1).f2, (rd_T39 x9_2 a1).f3⟩ : S39)) (k39_mkM _ _ _ (⟨(rd_T39 x9_2 a1).f0, wrap64 (x10_2 + (wrap64 (Int.tdiv (wrap64 (x11_2 - x10_2)) 2))), (rd_T39 x9_2 a1).f2, (rd_T39 x9_2 a1).f3⟩ : S39) ) (fun _ hk => hk))); (try (have hx24_1 := hcc24 1 _ rfl)); (try (try simp only [show (k39).sz = 4 from rfl, Nat.mul_one, Nat.add_zero] at hx24_1)); (try (have hf24_1 := hfr24 1)); (try (try simp only [show (k39).sz = 4 from rfl, Nat.mul_one, Nat.add_zero] at hf24_1)); (try (clear hcl24 hcc24 hfr24 hM24)))); refine store_event (t := 3) (p := 54) (v := ?vo_w25) (w1 := (wr.setCell ⟨go21, (a1 : Int).toNat * 4 + 1, none⟩ (.int .i64 (wrap64 (x10_2 + (wrap64 (Int.tdiv (wrap64 (x11_2 - x10_2)) 2))))))) ?hg ?ho ?hn ?hr ?_; (case ho => rfl); (case hg => rfl); (case hn => rfl); (case hr => first | (go_simp; done) | (go_simp; rfl)); intro w25 hw; have hg : wr.grownBy w25 (some go21) := (by rw [hw]; exact HP24.2); have hp_ : Kd.R k39 39 w25 w.heap.size (fun _ => True) (.slice (some ⟨go21, 0, none⟩) x9_2.length co16) y181 := (by rw [hw, Ny181.out]; exact HP24.1); clear HP24; have n0_ := Aside0.mk (hp_); have n1_ := Aside0.mk ((by rw [hw]; exact below_set (HB.out) GB21.out : Below w.heap.size w w25)); clear HO_9; clear HB; have HO_9 := n0_; have HB := n1_; clear n0_ n1_; clear hg hw hp_) | (go_at_call 23; refine calls_of_args (args' := #[.slice (some ⟨go21, 0, none⟩) y181.length co16, .slice A2 l2.length c2]) (by first | (rw [show y181.length = x9_2.length from (Kd.R_reads' HO_9.out).1.symm] <;> rfl) | rfl) ?_; (with_reducible refine (response_all.calls k2 _ _ y181 _ _ l2 t182 true _ ?side1 ?side2 ?side3 ?side4 A22.out).mono ?_); (case side1 => repeat (first | exact (Kd.R_reads' HO_9.out).2.2 | (with_reducible refine Kd.C_alloc ?_ _) | (with_reducible refine Kd.C_drewN ?_ _) | (with_reducible refine Kd.C_drew ?_))); (case side2 => rw [show y181.length = x9_2.length from (Kd.R_reads' HO_9.out).1.symm]; exact (Kd.R_reads' HO_9.out).2.1); (case side3 => repeat (first | exact (Kd.C_below HR2.out HB.out) | (with_reducible refine Kd.C_alloc ?_ _) | (with_reducible refine Kd.C_drewN ?_ _) | (with_reducible refine Kd.C_drew ?_))); (case side4 => exact HC2.out); rintro e w26 ⟨v184, rfl, ho0, hb⟩; have n0_ := Aside0.mk (Kd.R_below (by (with_reducible repeat (first | apply Kd.R_alloc | apply Kd.R_drewN | apply Kd.R_drew)); exact HO_9.out) hb); have n1_ := Aside0.mk (Kd.R_lower ho0 (below_size (by repeat (first | (with_reducible first | exact HB.out | apply below_alloc | apply pw_below_drewN | apply below_drew1) | exact HB.out)))); have n2_ := Aside0.mk (below_step (by repeat (first | (with_reducible first | exact HB.out | apply below_alloc | apply pw_below_drewN | apply below_drew1) | exact HB.out)) hb); clear HO_9; clear HB; have HO_9 := n0_; have HO185 := n1_; have HB := n2_; clear n0_ n1_ n2_; (try clear hb); (try clear hb2); (try clear hk); (try clear hi); (try clear ho0); have p186 : 0 ≤ (a1 : Int) := of_decide_eq_true (by first | (with_reducible assumption) | assumption); have q186 : a1 < (y181.length : Int) := (by have h_ : (a1 : Int) < ((x9_2.length : Int) : Int) := of_decide_eq_true (by first | (with_reducible assumption) | assumption); first | (have e_ := (Kd.R_reads' HO_9.out).1; omega) | simpa only [Ny181.out, List.length_set] using h_); have ql186 : ((a1 : Int) < ((x9_2.length : Int) : Int)) = True := eq_true (of_decide_eq_true (by first | (with_reducible assumption) | assumption)); obtain ⟨ad186, e186, hx186_0, hx186_1, hx186_2, hx186_3⟩ := at_T39 (Kd.R_reads' HO_9.out).2.2 a1 p186 q186; obtain rfl : (⟨go21, 0, none⟩ : Addr) = ad186 := (by injection e186); (first | simp only [add_plain] at hx186_0 | simp only [add_at] at hx186_0 | simp only [Addr.add, Nat.zero_add] at hx186_0 | skip); (first | simp only [add_plain] at hx186_1 | simp only [add_at] at hx186_1 | simp only [Addr.add, Nat.zero_add] at hx186_1 | skip); (first | simp only [add_plain] at hx186_2 | simp only [add_at] at hx186_2 | simp only [Addr.add, Nat.zero_add] at hx186_2 | skip); (first | simp only [add_plain] at hx186_3 | simp only [add_at] at hx186_3 | simp only [Addr.add, Nat.zero_add] at hx186_3 | skip); replace p186 := eq_true p186; replace q186 := eq_true q186))
               repeat (go_quiet (first | ((with_reducible refine gate_store (t := 3) (p := 54) rfl ?_); (try (rw [drewN_self wr]; generalize hq_ : World.drewN wr _ = wr; have n0_ := Aside0.mk (Kd.R_at hq_ HO_9.out); have n1_ := Aside0.mk (below_at hq_ HB.out); clear hq_ HO_9 HB; have HO_9 := n0_; have HB := n1_; clear n0_ n1_; (try (have HX24 := Aside0.mk (show Kd.R k39 39 wr w.heap.size (fun _ => True) (.slice (some ⟨go21, 0, none⟩) x9_2.length co16) x9_2 from (by (with_reducible repeat (first | apply Kd.R_alloc | apply Kd.R_drewN | apply Kd.R_drew)); exact HO_9.out)))); (try (obtain ⟨ce24, hcl24, hM24, hcc24, hfr24⟩ := Kd.R_elem HX24.out z39 (a1 : Int) (of_decide_eq_true (by first | (with_reducible assumption) | assumption)) (by have h_ : (a1 : Int) < ((x9_2.length : Int) : Int) := of_decide_eq_true (by first | (with_reducible assumption) | assumption); first | exact h_ | (have e_ := (Kd.R_reads' HO_9.out).1; omega) | (simp; done) | simpa using h_))); (try (obtain rfl := k39_openM hM24)); (try (have HP24 := Kd.R_seg HX24.out (a1 : Int) (of_decide_eq_true (by first | (with_reducible assumption) | assumption)) (by have h_ : (a1 : Int) < ((x9_2.length : Int) : Int) := of_decide_eq_true (by first | (with_reducible assumption) | assumption); first | exact h_ | (have e_ := (Kd.R_reads' HO_9.out).1; omega) | (simp; done) | simpa using h_) (seg := [.int .i64 (wrap64 (x10_2 + (wrap64 (Int.tdiv (wrap64 (x11_2 - x10_2)) 2))))]) (j := 1) hcl24 hcc24 (show 2 ≤ 4 from by decide) (x' := (⟨(rd_T39 x9_2 a1).f0, wrap64 (x10_2 + (wrap64 (Int.tdiv (wrap64 (x11_2 - x10_2)) 2))), (rd_T39 x9_2 a1).f2, (rd_T39 x9_2 a1).f3⟩ : S39)) (k39_mkM _ _ _ (⟨(rd_T39 x9_2 a1).f0, wrap64 (x10_2 + (wrap64 (Int.tdiv (wrap64 (x11_2 - x10_2)) 2))), (rd_T39 x9_2 a1).f2, (rd_T39 x9_2 a1).f3⟩ : S39) ) (fun _ hk => hk))); (try (have hx24_1 := hcc24 1 _ rfl)); (try (try simp only [show (k39).sz = 4 from rfl, Nat.mul_one, Nat.add_zero] at hx24_1)); (try (have hf24_1 := hfr24 1)); (try (try simp only [show (k39).sz = 4 from rfl, Nat.mul_one, Nat.add_zero] at hf24_1)); (try (clear hcl24 hcc24 hfr24 hM24)))); refine store_event (t := 3) (p := 54) (v := ?vo_w25) (w1 := (wr.setCell ⟨go21, (a1 : Int).toNat * 4 + 1, none⟩ (.int .i64 (wrap64 (x10_2 + (wrap64 (Int.tdiv (wrap64 (x11_2 - x10_2)) 2))))))) ?hg ?ho ?hn ?hr ?_; (case ho => rfl); (case hg => rfl); (case hn => rfl); (case hr => first | (go_simp; done) | (go_simp; rfl)); intro w25 hw; have hg : wr.grownBy w25 (some go21) := (by rw [hw]; exact HP24.2); have hp_ : Kd.R k39 39 w25 w.heap.size (fun _ => True) (.slice (some ⟨go21, 0, none⟩) x9_2.length co16) y181 := (by rw [hw, Ny181.out]; exact HP24.1); clear HP24; have n0_ := Aside0.mk (hp_); have n1_ := Aside0.mk ((by rw [hw]; exact below_set (HB.out) GB21.out : Below w.heap.size w w25)); clear HO_9; clear HB; have HO_9 := n0_; have HB := n1_; clear n0_ n1_; clear hg hw hp_) | (go_at_call 23; refine calls_of_args (args' := #[.slice (some ⟨go21, 0, none⟩) y181.length co16, .slice A2 l2.length c2]) (by first | (rw [show y181.length = x9_2.length from (Kd.R_reads' HO_9.out).1.symm] <;> rfl) | rfl) ?_; (with_reducible refine (response_all.calls k2 _ _ y181 _ _ l2 t182 true _ ?side1 ?side2 ?side3 ?side4 A22.out).mono ?_); (case side1 => repeat (first | exact (Kd.R_reads' HO_9.out).2.2 | (with_reducible refine Kd.C_alloc ?_ _) | (with_reducible refine Kd.C_drewN ?_ _) | (with_reducible refine Kd.C_drew ?_))); (case side2 => rw [show y181.length = x9_2.length from (Kd.R_reads' HO_9.out).1.symm]; exact (Kd.R_reads' HO_9.out).2.1); (case side3 => repeat (first | exact (Kd.C_below HR2.out HB.out) | (with_reducible refine Kd.C_alloc ?_ _) | (with_reducible refine Kd.C_drewN ?_ _) | (with_reducible refine Kd.C_drew ?_))); (case side4 => exact HC2.out); rintro e w26 ⟨v184, rfl, ho0, hb⟩; have n0_ := Aside0.mk (Kd.R_below (by (with_reducible repeat (first | apply Kd.R_alloc | apply Kd.R_drewN | apply Kd.R_drew)); exact HO_9.out) hb); have n1_ := Aside0.mk (Kd.R_lower ho0 (below_size (by repeat (first | (with_reducible first | exact HB.out | apply below_alloc | apply pw_below_drewN | apply below_drew1) | exact HB.out)))); have n2_ := Aside0.mk (below_step (by repeat (first | (with_reducible first | exact HB.out | apply below_alloc | apply pw_below_drewN | apply below_drew1) | exact HB.out)) hb); clear HO_9; clear HB; have HO_9 := n0_; have HO185 := n1_; have HB := n2_; clear n0_ n1_ n2_; (try clear hb); (try clear hb2); (try clear hk); (try clear hi); (try clear ho0); have p186 : 0 ≤ (a1 : Int) := of_decide_eq_true (by first | (with_reducible assumption) | assumption); have q186 : a1 < (y181.length : Int) := (by have h_ : (a1 : Int) < ((x9_2.length : Int) : Int) := of_decide_eq_true (by first | (with_reducible assumption) | assumption); first | (have e_ := (Kd.R_reads' HO_9.out).1; omega) | simpa only [Ny181.out, List.length_set] using h_); have ql186 : ((a1 : Int) < ((x9_2.length : Int) : Int)) = True := eq_true (of_decide_eq_true (by first | (with_reducible assumption) | assumption)); obtain ⟨ad186, e186, hx186_0, hx186_1, hx186_2, hx186_3⟩ := at_T39 (Kd.R_reads' HO_9.out).2.2 a1 p186 q186; obtain rfl : (⟨go21, 0, none⟩ : Addr) = ad186 := (by injection e186); (first | simp only [add_plain] at hx186_0 | simp only [add_at] at hx186_0 | simp only [Addr.add, Nat.zero_add] at hx186_0 | skip); (first | simp only [add_plain] at hx186_1 | simp only [add_at] at hx186_1 | simp only [Addr.add, Nat.zero_add] at hx186_1 | skip); (first | simp only [add_plain] at hx186_2 | simp only [add_at] at hx186_2 | simp only [Addr.add, Nat.zero_add] at hx186_2 | skip); (first | simp only [add_plain] at hx186_3 | simp only [add_at] at hx186_3 | simp only [Addr.add, Nat.zero_add] at hx186_3 | skip); replace p186 := eq_true p186; replace q186 := eq_true q186)); try go_wp2_with (first | ((with_reducible refine gate_store (t := 3) (p := 54) rfl ?_); (try (rw [drewN_self wr]; generalize hq_ : World.drewN wr _ = wr; have n0_ := Aside0.mk (Kd.R_at hq_ HO_9.out); have n1_ := Aside0.mk (below_at hq_ HB.out); clear hq_ HO_9 HB; have HO_9 := n0_; have HB := n1_; clear n0_ n1_; (try (have HX24 := Aside0.mk (show Kd.R k39 39 wr w.heap.size (fun _ => True) (.slice (some ⟨go21, 0, none⟩) x9_2.length co16) x9_2 from (by (with_reducible repeat (first | apply Kd.R_alloc | apply Kd.R_drewN | apply Kd.R_drew)); exact HO_9.out)))); (try (obtain ⟨ce24, hcl24, hM24, hcc24, hfr24⟩ := Kd.R_elem HX24.out z39 (a1 : Int) (of_decide_eq_true (by first | (with_reducible assumption) | assumption)) (by have h_ : (a1 : Int) < ((x9_2.length : Int) : Int) := of_decide_eq_true (by first | (with_reducible assumption) | assumption); first | exact h_ | (have e_ := (Kd.R_reads' HO_9.out).1; omega) | (simp; done) | simpa using h_))); (try (obtain rfl := k39_openM hM24)); (try (have HP24 := Kd.R_seg HX24.out (a1 : Int) (of_decide_eq_true (by first | (with_reducible assumption) | assumption)) (by have h_ : (a1 : Int) < ((x9_2.length : Int) : Int) := of_decide_eq_true (by first | (with_reducible assumption) | assumption); first | exact h_ | (have e_ := (Kd.R_reads' HO_9.out).1; omega) | (simp; done) | simpa using h_) (seg := [.int .i64 (wrap64 (x10_2 + (wrap64 (Int.tdiv (wrap64 (x11_2 - x10_2)) 2))))]) (j := 1) hcl24 hcc24 (show 2 ≤ 4 from by decide) (x' := (⟨(rd_T39 x9_2 a1).f0, wrap64 (x10_2 + (wrap64 (Int.tdiv (wrap64 (x11_2 - x10_2)) 2))), (rd_T39 x9_2 a1).f2, (rd_T39 x9_2 a1).f3⟩ : S39)) (k39_mkM _ _ _ (⟨(rd_T39 x9_2 a1).f0, wrap64 (x10_2 + (wrap64 (Int.tdiv (wrap64 (x11_2 - x10_2)) 2))), (rd_T39 x9_2 a1).f2, (rd_T39 x9_2 a1).f3⟩ : S39) ) (fun _ hk => hk))); (try (have hx24_1 := hcc24 1 _ rfl)); (try (try simp only [show (k39).sz = 4 from rfl, Nat.mul_one, Nat.add_zero] at hx24_1)); (try (have hf24_1 := hfr24 1)); (try (try simp only [show (k39).sz = 4 from rfl, Nat.mul_one, Nat.add_zero] at hf24_1)); (try (clear hcl24 hcc24 hfr24 hM24)))); refine store_event (t := 3) (p := 54) (v := ?vo_w25) (w1 := (wr.setCell ⟨go21, (a1 : Int).toNat * 4 + 1, none⟩ (.int .i64 (wrap64 (x10_2 + (wrap64 (Int.tdiv (wrap64 (x11_2 - x10_2)) 2))))))) ?hg ?ho ?hn ?hr ?_; (case ho => rfl); (case hg => rfl); (case hn => rfl); (case hr => first | (go_simp; done) | (go_simp; rfl)); intro w25 hw; have hg : wr.grownBy w25 (some go21) := (by rw [hw]; exact HP24.2); have hp_ : Kd.R k39 39 w25 w.heap.size (fun _ => True) (.slice (some ⟨go21, 0, none⟩) x9_2.length co16) y181 := (by rw [hw, Ny181.out]; exact HP24.1); clear HP24; have n0_ := Aside0.mk (hp_); have n1_ := Aside0.mk ((by rw [hw]; exact below_set (HB.out) GB21.out : Below w.heap.size w w25)); clear HO_9; clear HB; have HO_9 := n0_; have HB := n1_; clear n0_ n1_; clear hg hw hp_) | (go_at_call 23; refine calls_of_args (args' := #[.slice (some ⟨go21, 0, none⟩) y181.length co16, .slice A2 l2.length c2]) (by first | (rw [show y181.length = x9_2.length from (Kd.R_reads' HO_9.out).1.symm] <;> rfl) | rfl) ?_; (with_reducible refine (response_all.calls k2 _ _ y181 _ _ l2 t182 true _ ?side1 ?side2 ?side3 ?side4 A22.out).mono ?_); (case side1 => repeat (first | exact (Kd.R_reads' HO_9.out).2.2 | (with_reducible refine Kd.C_alloc ?_ _) | (with_reducible refine Kd.C_drewN ?_ _) | (with_reducible refine Kd.C_drew ?_))); (case side2 => rw [show y181.length = x9_2.length from (Kd.R_reads' HO_9.out).1.symm]; exact (Kd.R_reads' HO_9.out).2.1); (case side3 => repeat (first | exact (Kd.C_below HR2.out HB.out) | (with_reducible refine Kd.C_alloc ?_ _) | (with_reducible refine Kd.C_drewN ?_ _) | (with_reducible refine Kd.C_drew ?_))); (case side4 => exact HC2.out); rintro e w26 ⟨v184, rfl, ho0, hb⟩; have n0_ := Aside0.mk (Kd.R_below (by (with_reducible repeat (first | apply Kd.R_alloc | apply Kd.R_drewN | apply Kd.R_drew)); exact HO_9.out) hb); have n1_ := Aside0.mk (Kd.R_lower ho0 (below_size (by repeat (first | (with_reducible first | exact HB.out | apply below_alloc | apply pw_below_drewN | apply below_drew1) | exact HB.out)))); have n2_ := Aside0.mk (below_step (by repeat (first | (with_reducible first | exact HB.out | apply below_alloc | apply pw_below_drewN | apply below_drew1) | exact HB.out)) hb); clear HO_9; clear HB; have HO_9 := n0_; have HO185 := n1_; have HB := n2_; clear n0_ n1_ n2_; (try clear hb); (try clear hb2); (try clear hk); (try clear hi); (try clear ho0); have p186 : 0 ≤ (a1 : Int) := of_decide_eq_true (by first | (with_reducible assumption) | assumption); have q186 : a1 < (y181.length : Int) := (by have h_ : (a1 : Int) < ((x9_2.length : Int) : Int) := of_decide_eq_true (by first | (with_reducible assumption) | assumption); first | (have e_ := (Kd.R_reads' HO_9.out).1; omega) | simpa only [Ny181.out, List.length_set] using h_); have ql186 : ((a1 : Int) < ((x9_2.length : Int) : Int)) = True := eq_true (of_decide_eq_true (by first | (with_reducible assumption) | assumption)); obtain ⟨ad186, e186, hx186_0, hx186_1, hx186_2, hx186_3⟩ := at_T39 (Kd.R_reads' HO_9.out).2.2 a1 p186 q186; obtain rfl : (⟨go21, 0, none⟩ : Addr) = ad186 := (by injection e186); (first | simp only [add_plain] at hx186_0 | simp only [add_at] at hx186_0 | simp only [Addr.add, Nat.zero_add] at hx186_0 | skip); (first | simp only [add_plain] at hx186_1 | simp only [add_at] at hx186_1 | simp only [Addr.add, Nat.zero_add] at hx186_1 | skip); (first | simp only [add_plain] at hx186_2 | simp only [add_at] at hx186_2 | simp only [Addr.add, Nat.zero_add] at hx186_2 | skip); (first | simp only [add_plain] at hx186_3 | simp only [add_at] at hx186_3 | simp only [Addr.add, Nat.zero_add] at hx186_3 | skip); replace p186 := eq_true p186; replace q186 := eq_true q186)))
               (try simp only [← hl9_2])
               go_roundg k2
               case measure => have := HJ4.out; have := HK2.out; omega
               case rel => exact ⟨(y181), ((rd_T39 y181 a1).f1), (x11_2), (by first | rfl | (simp; done) | (simp [*]; done)), (by first | rfl | (simp; done) | (simp [*]; done)), H', ⟨by have := HJ4.out; have := HK2.out; omega⟩, ⟨by (try simp only [hl9_2]); (with_reducible repeat (first | apply Kd.R_alloc | apply Kd.R_drewN | apply Kd.R_drew)); exact HO_9.out⟩, ⟨by repeat (first | (with_reducible first | exact HB.out | apply below_alloc | apply pw_below_drewN | apply below_drew1) | exact HB.out)⟩⟩
              ·replace c23 := Bool.eq_false_iff.mpr c23
               subst c23
               have H1 : (response_Most.l0 k2 a1 l2 y181 x10_2 ((rd_T39 y181 a1).f1)) = some (r1, r2) := by rw [if_neg (show ¬ (false = true) by decide)] at H; exact H
               clear H
               have H := H1
               clear H1
               have H' := Aside0.mk H
               clear H
               have p21 : 0 ≤ (a1 : Int) := of_decide_eq_true (by first | (with_reducible assumption) | assumption)
               have q21 : (a1 : Int) < ((x9_2.length : Int) : Int) := of_decide_eq_true (by first | (with_reducible assumption) | assumption)
               obtain ⟨go21, co21, eo21, gb21, gl21, cl21, HG21⟩ := Kd.R_form HO_9.out (by omega)
               (first | cases eo21 | (injection eo21 with ea_ en_ ec_; (first | subst ea_ | (injection ea_ with ea_; subst ea_)); subst ec_; clear en_))
               have GB21 := Aside0.mk gb21
               have GG21 := Aside0.mk HG21
               clear gb21 gl21 HG21
               obtain ⟨ce21, hcl21, hM21, hcc21, hfr21⟩ := Kd.R_elem HO_9.out z39 (a1 : Int) p21 q21
               obtain rfl := k39_openM hM21
               have hx21_0 : wr.cell? ⟨go21, (a1 : Int).toNat * 4, none⟩ = some (.int .i64 ((rd_T39 x9_2 a1).f0)) := hcc21 0 _ rfl
               have hx21_1 : wr.cell? ⟨go21, (a1 : Int).toNat * 4 + 1, none⟩ = some (.int .i64 ((rd_T39 x9_2 a1).f1)) := hcc21 1 _ rfl
               have hx21_2 : wr.cell? ⟨go21, (a1 : Int).toNat * 4 + 2, none⟩ = some (.int .i64 ((rd_T39 x9_2 a1).f2)) := hcc21 2 _ rfl
               have hx21_3 : wr.cell? ⟨go21, (a1 : Int).toNat * 4 + 3, none⟩ = some (.int .i64 ((rd_T39 x9_2 a1).f3)) := hcc21 3 _ rfl
               have hf21_0 : wr.frozen? ⟨go21, (a1 : Int).toNat * 4, none⟩ = false := hfr21 0
               have hf21_1 : wr.frozen? ⟨go21, (a1 : Int).toNat * 4 + 1, none⟩ = false := hfr21 1
               have hf21_2 : wr.frozen? ⟨go21, (a1 : Int).toNat * 4 + 2, none⟩ = false := hfr21 2
               have hf21_3 : wr.frozen? ⟨go21, (a1 : Int).toNat * 4 + 3, none⟩ = false := hfr21 3
               clear hcl21 hcc21 hfr21 hM21
               replace p21 := eq_true p21
               replace q21 := eq_true q21
               have HX27 := Aside0.mk (show Kd.R k39 39 wr w.heap.size (fun _ => True) (.slice (some ⟨go21, 0, none⟩) x9_2.length co16) x9_2 from (by (with_reducible repeat (first | apply Kd.R_alloc | apply Kd.R_drewN | apply Kd.R_drew)); exact HO_9.out))
               obtain ⟨ce27, hcl27, hM27, hcc27, hfr27⟩ := Kd.R_elem HX27.out z39 (a1 : Int) (of_decide_eq_true (by first | (with_reducible assumption) | assumption)) (by have h_ : (a1 : Int) < ((x9_2.length : Int) : Int) := of_decide_eq_true (by first | (with_reducible assumption) | assumption); first | exact h_ | (have e_ := (Kd.R_reads' HO_9.out).1; omega) | (simp; done) | simpa using h_)
               obtain rfl := k39_openM hM27
               have HP27 := Kd.R_seg HX27.out (a1 : Int) (of_decide_eq_true (by first | (with_reducible assumption) | assumption)) (by have h_ : (a1 : Int) < ((x9_2.length : Int) : Int) := of_decide_eq_true (by first | (with_reducible assumption) | assumption); first | exact h_ | (have e_ := (Kd.R_reads' HO_9.out).1; omega) | (simp; done) | simpa using h_) (seg := [.int .i64 (wrap64 (x10_2 + (wrap64 (Int.tdiv (wrap64 (x11_2 - x10_2)) 2))))]) (j := 1) hcl27 hcc27 (show 2 ≤ 4 from by decide) (x' := (⟨(rd_T39 x9_2 a1).f0, wrap64 (x10_2 + (wrap64 (Int.tdiv (wrap64 (x11_2 - x10_2)) 2))), (rd_T39 x9_2 a1).f2, (rd_T39 x9_2 a1).f3⟩ : S39)) (k39_mkM _ _ _ (⟨(rd_T39 x9_2 a1).f0, wrap64 (x10_2 + (wrap64 (Int.tdiv (wrap64 (x11_2 - x10_2)) 2))), (rd_T39 x9_2 a1).f2, (rd_T39 x9_2 a1).f3⟩ : S39) ) (fun _ hk => hk)
               have hx27_1 := hcc27 1 _ rfl
               (try simp only [show (k39).sz = 4 from rfl, Nat.mul_one, Nat.add_zero] at hx27_1)
               have hf27_1 := hfr27 1
               (try simp only [show (k39).sz = 4 from rfl, Nat.mul_one, Nat.add_zero] at hf27_1)
               clear hcl27 hcc27 hfr27 hM27
               go_wp2_with (first | ((with_reducible refine gate_store (t := 3) (p := 54) rfl ?_); (try (rw [drewN_self wr]; generalize hq_ : World.drewN wr _ = wr; have n0_ := Aside0.mk (Kd.R_at hq_ HO_9.out); have n1_ := Aside0.mk (below_at hq_ HB.out); clear hq_ HO_9 HB; have HO_9 := n0_; have HB := n1_; clear n0_ n1_; (try (have HX27 := Aside0.mk (show Kd.R k39 39 wr w.heap.size (fun _ => True) (.slice (some ⟨go21, 0, none⟩) x9_2.length co16) x9_2 from (by (with_reducible repeat (first | apply Kd.R_alloc | apply Kd.R_drewN | apply Kd.R_drew)); exact HO_9.out)))); (try (obtain ⟨ce27, hcl27, hM27, hcc27, hfr27⟩ := Kd.R_elem HX27.out z39 (a1 : Int) (of_decide_eq_true (by first | (with_reducible assumption) | assumption)) (by have h_ : (a1 : Int) < ((x9_2.length : Int) : Int) := of_decide_eq_true (by first | (with_reducible assumption) | assumption); first | exact h_ | (have e_ := (Kd.R_reads' HO_9.out).1; omega) | (simp; done) | simpa using h_))); (try (obtain rfl := k39_openM hM27)); (try (have HP27 := Kd.R_seg HX27.out (a1 : Int) (of_decide_eq_true (by first | (with_reducible assumption) | assumption)) (by have h_ : (a1 : Int) < ((x9_2.length : Int) : Int) := of_decide_eq_true (by first | (with_reducible assumption) | assumption); first | exact h_ | (have e_ := (Kd.R_reads' HO_9.out).1; omega) | (simp; done) | simpa using h_) (seg := [.int .i64 (wrap64 (x10_2 + (wrap64 (Int.tdiv (wrap64 (x11_2 - x10_2)) 2))))]) (j := 1) hcl27 hcc27 (show 2 ≤ 4 from by decide) (x' := (⟨(rd_T39 x9_2 a1).f0, wrap64 (x10_2 + (wrap64 (Int.tdiv (wrap64 (x11_2 - x10_2)) 2))), (rd_T39 x9_2 a1).f2, (rd_T39 x9_2 a1).f3⟩ : S39)) (k39_mkM _ _ _ (⟨(rd_T39 x9_2 a1).f0, wrap64 (x10_2 + (wrap64 (Int.tdiv (wrap64 (x11_2 - x10_2)) 2))), (rd_T39 x9_2 a1).f2, (rd_T39 x9_2 a1).f3⟩ : S39) ) (fun _ hk => hk))); (try (have hx27_1 := hcc27 1 _ rfl)); (try (try simp only [show (k39).sz = 4 from rfl, Nat.mul_one, Nat.add_zero] at hx27_1)); (try (have hf27_1 := hfr27 1)); (try (try simp only [show (k39).sz = 4 from rfl, Nat.mul_one, Nat.add_zero] at hf27_1)); (try (clear hcl27 hcc27 hfr27 hM27)))); refine store_event (t := 3) (p := 54) (v := ?vo_w28) (w1 := (wr.setCell ⟨go21, (a1 : Int).toNat * 4 + 1, none⟩ (.int .i64 (wrap64 (x10_2 + (wrap64 (Int.tdiv (wrap64 (x11_2 - x10_2)) 2))))))) ?hg ?ho ?hn ?hr ?_; (case ho => rfl); (case hg => rfl); (case hn => rfl); (case hr => first | (go_simp; done) | (go_simp; rfl)); intro w28 hw; have hg : wr.grownBy w28 (some go21) := (by rw [hw]; exact HP27.2); have hp_ : Kd.R k39 39 w28 w.heap.size (fun _ => True) (.slice (some ⟨go21, 0, none⟩) x9_2.length co16) y181 := (by rw [hw, Ny181.out]; exact HP27.1); clear HP27; have n0_ := Aside0.mk (hp_); have n1_ := Aside0.mk ((by rw [hw]; exact below_set (HB.out) GB21.out : Below w.heap.size w w28)); clear HO_9; clear HB; have HO_9 := n0_; have HB := n1_; clear n0_ n1_; clear hg hw hp_) | (go_at_call 23; refine calls_of_args (args' := #[.slice (some ⟨go21, 0, none⟩) y181.length co16, .slice A2 l2.length c2]) (by first | (rw [show y181.length = x9_2.length from (Kd.R_reads' HO_9.out).1.symm] <;> rfl) | rfl) ?_; (with_reducible refine (response_all.calls k2 _ _ y181 _ _ l2 t182 false _ ?side1 ?side2 ?side3 ?side4 A22.out).mono ?_); (case side1 => repeat (first | exact (Kd.R_reads' HO_9.out).2.2 | (with_reducible refine Kd.C_alloc ?_ _) | (with_reducible refine Kd.C_drewN ?_ _) | (with_reducible refine Kd.C_drew ?_))); (case side2 => rw [show y181.length = x9_2.length from (Kd.R_reads' HO_9.out).1.symm]; exact (Kd.R_reads' HO_9.out).2.1); (case side3 => repeat (first | exact (Kd.C_below HR2.out HB.out) | (with_reducible refine Kd.C_alloc ?_ _) | (with_reducible refine Kd.C_drewN ?_ _) | (with_reducible refine Kd.C_drew ?_))); (case side4 => exact HC2.out); rintro e w29 ⟨v184, rfl, ho0, hb⟩; have n0_ := Aside0.mk (Kd.R_below (by (with_reducible repeat (first | apply Kd.R_alloc | apply Kd.R_drewN | apply Kd.R_drew)); exact HO_9.out) hb); have n1_ := Aside0.mk (Kd.R_lower ho0 (below_size (by repeat (first | (with_reducible first | exact HB.out | apply below_alloc | apply pw_below_drewN | apply below_drew1) | exact HB.out)))); have n2_ := Aside0.mk (below_step (by repeat (first | (with_reducible first | exact HB.out | apply below_alloc | apply pw_below_drewN | apply below_drew1) | exact HB.out)) hb); clear HO_9; clear HB; have HO_9 := n0_; have HO185 := n1_; have HB := n2_; clear n0_ n1_ n2_; (try clear hb); (try clear hb2); (try clear hk); (try clear hi); (try clear ho0); have p187 : 0 ≤ (a1 : Int) := of_decide_eq_true (by first | (with_reducible assumption) | assumption); have q187 : a1 < (y181.length : Int) := (by have h_ : (a1 : Int) < ((x9_2.length : Int) : Int) := of_decide_eq_true (by first | (with_reducible assumption) | assumption); first | (have e_ := (Kd.R_reads' HO_9.out).1; omega) | simpa only [Ny181.out, List.length_set] using h_); have ql187 : ((a1 : Int) < ((x9_2.length : Int) : Int)) = True := eq_true (of_decide_eq_true (by first | (with_reducible assumption) | assumption)); obtain ⟨ad187, e187, hx187_0, hx187_1, hx187_2, hx187_3⟩ := at_T39 (Kd.R_reads' HO_9.out).2.2 a1 p187 q187; obtain rfl : (⟨go21, 0, none⟩ : Addr) = ad187 := (by injection e187); (first | simp only [add_plain] at hx187_0 | simp only [add_at] at hx187_0 | simp only [Addr.add, Nat.zero_add] at hx187_0 | skip); (first | simp only [add_plain] at hx187_1 | simp only [add_at] at hx187_1 | simp only [Addr.add, Nat.zero_add] at hx187_1 | skip); (first | simp only [add_plain] at hx187_2 | simp only [add_at] at hx187_2 | simp only [Addr.add, Nat.zero_add] at hx187_2 | skip); (first | simp only [add_plain] at hx187_3 | simp only [add_at] at hx187_3 | simp only [Addr.add, Nat.zero_add] at hx187_3 | skip); replace p187 := eq_true p187; replace q187 := eq_true q187))
               repeat (go_quiet (first | ((with_reducible refine gate_store (t := 3) (p := 54) rfl ?_); (try (rw [drewN_self wr]; generalize hq_ : World.drewN wr _ = wr; have n0_ := Aside0.mk (Kd.R_at hq_ HO_9.out); have n1_ := Aside0.mk (below_at hq_ HB.out); clear hq_ HO_9 HB; have HO_9 := n0_; have HB := n1_; clear n0_ n1_; (try (have HX27 := Aside0.mk (show Kd.R k39 39 wr w.heap.size (fun _ => True) (.slice (some ⟨go21, 0, none⟩) x9_2.length co16) x9_2 from (by (with_reducible repeat (first | apply Kd.R_alloc | apply Kd.R_drewN | apply Kd.R_drew)); exact HO_9.out)))); (try (obtain ⟨ce27, hcl27, hM27, hcc27, hfr27⟩ := Kd.R_elem HX27.out z39 (a1 : Int) (of_decide_eq_true (by first | (with_reducible assumption) | assumption)) (by have h_ : (a1 : Int) < ((x9_2.length : Int) : Int) := of_decide_eq_true (by first | (with_reducible assumption) | assumption); first | exact h_ | (have e_ := (Kd.R_reads' HO_9.out).1; omega) | (simp; done) | simpa using h_))); (try (obtain rfl := k39_openM hM27)); (try (have HP27 := Kd.R_seg HX27.out (a1 : Int) (of_decide_eq_true (by first | (with_reducible assumption) | assumption)) (by have h_ : (a1 : Int) < ((x9_2.length : Int) : Int) := of_decide_eq_true (by first | (with_reducible assumption) | assumption); first | exact h_ | (have e_ := (Kd.R_reads' HO_9.out).1; omega) | (simp; done) | simpa using h_) (seg := [.int .i64 (wrap64 (x10_2 + (wrap64 (Int.tdiv (wrap64 (x11_2 - x10_2)) 2))))]) (j := 1) hcl27 hcc27 (show 2 ≤ 4 from by decide) (x' := (⟨(rd_T39 x9_2 a1).f0, wrap64 (x10_2 + (wrap64 (Int.tdiv (wrap64 (x11_2 - x10_2)) 2))), (rd_T39 x9_2 a1).f2, (rd_T39 x9_2 a1).f3⟩ : S39)) (k39_mkM _ _ _ (⟨(rd_T39 x9_2 a1).f0, wrap64 (x10_2 + (wrap64 (Int.tdiv (wrap64 (x11_2 - x10_2)) 2))), (rd_T39 x9_2 a1).f2, (rd_T39 x9_2 a1).f3⟩ : S39) ) (fun _ hk => hk))); (try (have hx27_1 := hcc27 1 _ rfl)); (try (try simp only [show (k39).sz = 4 from rfl, Nat.mul_one, Nat.add_zero] at hx27_1)); (try (have hf27_1 := hfr27 1)); (try (try simp only [show (k39).sz = 4 from rfl, Nat.mul_one, Nat.add_zero] at hf27_1)); (try (clear hcl27 hcc27 hfr27 hM27)))); refine store_event (t := 3) (p := 54) (v := ?vo_w28) (w1 := (wr.setCell ⟨go21, (a1 : Int).toNat * 4 + 1, none⟩ (.int .i64 (wrap64 (x10_2 + (wrap64 (Int.tdiv (wrap64 (x11_2 - x10_2)) 2))))))) ?hg ?ho ?hn ?hr ?_; (case ho => rfl); (case hg => rfl); (case hn => rfl); (case hr => first | (go_simp; done) | (go_simp; rfl)); intro w28 hw; have hg : wr.grownBy w28 (some go21) := (by rw [hw]; exact HP27.2); have hp_ : Kd.R k39 39 w28 w.heap.size (fun _ => True) (.slice (some ⟨go21, 0, none⟩) x9_2.length co16) y181 := (by rw [hw, Ny181.out]; exact HP27.1); clear HP27; have n0_ := Aside0.mk (hp_); have n1_ := Aside0.mk ((by rw [hw]; exact below_set (HB.out) GB21.out : Below w.heap.size w w28)); clear HO_9; clear HB; have HO_9 := n0_; have HB := n1_; clear n0_ n1_; clear hg hw hp_) | (go_at_call 23; refine calls_of_args (args' := #[.slice (some ⟨go21, 0, none⟩) y181.length co16, .slice A2 l2.length c2]) (by first | (rw [show y181.length = x9_2.length from (Kd.R_reads' HO_9.out).1.symm] <;> rfl) | rfl) ?_; (with_reducible refine (response_all.calls k2 _ _ y181 _ _ l2 t182 false _ ?side1 ?side2 ?side3 ?side4 A22.out).mono ?_); (case side1 => repeat (first | exact (Kd.R_reads' HO_9.out).2.2 | (with_reducible refine Kd.C_alloc ?_ _) | (with_reducible refine Kd.C_drewN ?_ _) | (with_reducible refine Kd.C_drew ?_))); (case side2 => rw [show y181.length = x9_2.length from (Kd.R_reads' HO_9.out).1.symm]; exact (Kd.R_reads' HO_9.out).2.1); (case side3 => repeat (first | exact (Kd.C_below HR2.out HB.out) | (with_reducible refine Kd.C_alloc ?_ _) | (with_reducible refine Kd.C_drewN ?_ _) | (with_reducible refine Kd.C_drew ?_))); (case side4 => exact HC2.out); rintro e w29 ⟨v184, rfl, ho0, hb⟩; have n0_ := Aside0.mk (Kd.R_below (by (with_reducible repeat (first | apply Kd.R_alloc | apply Kd.R_drewN | apply Kd.R_drew)); exact HO_9.out) hb); have n1_ := Aside0.mk (Kd.R_lower ho0 (below_size (by repeat (first | (with_reducible first | exact HB.out | apply below_alloc | apply pw_below_drewN | apply below_drew1) | exact HB.out)))); have n2_ := Aside0.mk (below_step (by repeat (first | (with_reducible first | exact HB.out | apply below_alloc | apply pw_below_drewN | apply below_drew1) | exact HB.out)) hb); clear HO_9; clear HB; have HO_9 := n0_; have HO185 := n1_; have HB := n2_; clear n0_ n1_ n2_; (try clear hb); (try clear hb2); (try clear hk); (try clear hi); (try clear ho0); have p187 : 0 ≤ (a1 : Int) := of_decide_eq_true (by first | (with_reducible assumption) | assumption); have q187 : a1 < (y181.length : Int) := (by have h_ : (a1 : Int) < ((x9_2.length : Int) : Int) := of_decide_eq_true (by first | (with_reducible assumption) | assumption); first | (have e_ := (Kd.R_reads' HO_9.out).1; omega) | simpa only [Ny181.out, List.length_set] using h_); have ql187 : ((a1 : Int) < ((x9_2.length : Int) : Int)) = True := eq_true (of_decide_eq_true (by first | (with_reducible assumption) | assumption)); obtain ⟨ad187, e187, hx187_0, hx187_1, hx187_2, hx187_3⟩ := at_T39 (Kd.R_reads' HO_9.out).2.2 a1 p187 q187; obtain rfl : (⟨go21, 0, none⟩ : Addr) = ad187 := (by injection e187); (first | simp only [add_plain] at hx187_0 | simp only [add_at] at hx187_0 | simp only [Addr.add, Nat.zero_add] at hx187_0 | skip); (first | simp only [add_plain] at hx187_1 | simp only [add_at] at hx187_1 | simp only [Addr.add, Nat.zero_add] at hx187_1 | skip); (first | simp only [add_plain] at hx187_2 | simp only [add_at] at hx187_2 | simp only [Addr.add, Nat.zero_add] at hx187_2 | skip); (first | simp only [add_plain] at hx187_3 | simp only [add_at] at hx187_3 | simp only [Addr.add, Nat.zero_add] at hx187_3 | skip); replace p187 := eq_true p187; replace q187 := eq_true q187)); try go_wp2_with (first | ((with_reducible refine gate_store (t := 3) (p := 54) rfl ?_); (try (rw [drewN_self wr]; generalize hq_ : World.drewN wr _ = wr; have n0_ := Aside0.mk (Kd.R_at hq_ HO_9.out); have n1_ := Aside0.mk (below_at hq_ HB.out); clear hq_ HO_9 HB; have HO_9 := n0_; have HB := n1_; clear n0_ n1_; (try (have HX27 := Aside0.mk (show Kd.R k39 39 wr w.heap.size (fun _ => True) (.slice (some ⟨go21, 0, none⟩) x9_2.length co16) x9_2 from (by (with_reducible repeat (first | apply Kd.R_alloc | apply Kd.R_drewN | apply Kd.R_drew)); exact HO_9.out)))); (try (obtain ⟨ce27, hcl27, hM27, hcc27, hfr27⟩ := Kd.R_elem HX27.out z39 (a1 : Int) (of_decide_eq_true (by first | (with_reducible assumption) | assumption)) (by have h_ : (a1 : Int) < ((x9_2.length : Int) : Int) := of_decide_eq_true (by first | (with_reducible assumption) | assumption); first | exact h_ | (have e_ := (Kd.R_reads' HO_9.out).1; omega) | (simp; done) | simpa using h_))); (try (obtain rfl := k39_openM hM27)); (try (have HP27 := Kd.R_seg HX27.out (a1 : Int) (of_decide_eq_true (by first | (with_reducible assumption) | assumption)) (by have h_ : (a1 : Int) < ((x9_2.length : Int) : Int) := of_decide_eq_true (by first | (with_reducible assumption) | assumption); first | exact h_ | (have e_ := (Kd.R_reads' HO_9.out).1; omega) | (simp; done) | simpa using h_) (seg := [.int .i64 (wrap64 (x10_2 + (wrap64 (Int.tdiv (wrap64 (x11_2 - x10_2)) 2))))]) (j := 1) hcl27 hcc27 (show 2 ≤ 4 from by decide) (x' := (⟨(rd_T39 x9_2 a1).f0, wrap64 (x10_2 + (wrap64 (Int.tdiv (wrap64 (x11_2 - x10_2)) 2))), (rd_T39 x9_2 a1).f2, (rd_T39 x9_2 a1).f3⟩ : S39)) (k39_mkM _ _ _ (⟨(rd_T39 x9_2 a1).f0, wrap64 (x10_2 + (wrap64 (Int.tdiv (wrap64 (x11_2 - x10_2)) 2))), (rd_T39 x9_2 a1).f2, (rd_T39 x9_2 a1).f3⟩ : S39) ) (fun _ hk => hk))); (try (have hx27_1 := hcc27 1 _ rfl)); (try (try simp only [show (k39).sz = 4 from rfl, Nat.mul_one, Nat.add_zero] at hx27_1)); (try (have hf27_1 := hfr27 1)); (try (try simp only [show (k39).sz = 4 from rfl, Nat.mul_one, Nat.add_zero] at hf27_1)); (try (clear hcl27 hcc27 hfr27 hM27)))); refine store_event (t := 3) (p := 54) (v := ?vo_w28) (w1 := (wr.setCell ⟨go21, (a1 : Int).toNat * 4 + 1, none⟩ (.int .i64 (wrap64 (x10_2 + (wrap64 (Int.tdiv (wrap64 (x11_2 - x10_2)) 2))))))) ?hg ?ho ?hn ?hr ?_; (case ho => rfl); (case hg => rfl); (case hn => rfl); (case hr => first | (go_simp; done) | (go_simp; rfl)); intro w28 hw; have hg : wr.grownBy w28 (some go21) := (by rw [hw]; exact HP27.2); have hp_ : Kd.R k39 39 w28 w.heap.size (fun _ => True) (.slice (some ⟨go21, 0, none⟩) x9_2.length co16) y181 := (by rw [hw, Ny181.out]; exact HP27.1); clear HP27; have n0_ := Aside0.mk (hp_); have n1_ := Aside0.mk ((by rw [hw]; exact below_set (HB.out) GB21.out : Below w.heap.size w w28)); clear HO_9; clear HB; have HO_9 := n0_; have HB := n1_; clear n0_ n1_; clear hg hw hp_) | (go_at_call 23; refine calls_of_args (args' := #[.slice (some ⟨go21, 0, none⟩) y181.length co16, .slice A2 l2.length c2]) (by first | (rw [show y181.length = x9_2.length from (Kd.R_reads' HO_9.out).1.symm] <;> rfl) | rfl) ?_; (with_reducible refine (response_all.calls k2 _ _ y181 _ _ l2 t182 false _ ?side1 ?side2 ?side3 ?side4 A22.out).mono ?_); (case side1 => repeat (first | exact (Kd.R_reads' HO_9.out).2.2 | (with_reducible refine Kd.C_alloc ?_ _) | (with_reducible refine Kd.C_drewN ?_ _) | (with_reducible refine Kd.C_drew ?_))); (case side2 => rw [show y181.length = x9_2.length from (Kd.R_reads' HO_9.out).1.symm]; exact (Kd.R_reads' HO_9.out).2.1); (case side3 => repeat (first | exact (Kd.C_below HR2.out HB.out) | (with_reducible refine Kd.C_alloc ?_ _) | (with_reducible refine Kd.C_drewN ?_ _) | (with_reducible refine Kd.C_drew ?_))); (case side4 => exact HC2.out); rintro e w29 ⟨v184, rfl, ho0, hb⟩; have n0_ := Aside0.mk (Kd.R_below (by (with_reducible repeat (first | apply Kd.R_alloc | apply Kd.R_drewN | apply Kd.R_drew)); exact HO_9.out) hb); have n1_ := Aside0.mk (Kd.R_lower ho0 (below_size (by repeat (first | (with_reducible first | exact HB.out | apply below_alloc | apply pw_below_drewN | apply below_drew1) | exact HB.out)))); have n2_ := Aside0.mk (below_step (by repeat (first | (with_reducible first | exact HB.out | apply below_alloc | apply pw_below_drewN | apply below_drew1) | exact HB.out)) hb); clear HO_9; clear HB; have HO_9 := n0_; have HO185 := n1_; have HB := n2_; clear n0_ n1_ n2_; (try clear hb); (try clear hb2); (try clear hk); (try clear hi); (try clear ho0); have p187 : 0 ≤ (a1 : Int) := of_decide_eq_true (by first | (with_reducible assumption) | assumption); have q187 : a1 < (y181.length : Int) := (by have h_ : (a1 : Int) < ((x9_2.length : Int) : Int) := of_decide_eq_true (by first | (with_reducible assumption) | assumption); first | (have e_ := (Kd.R_reads' HO_9.out).1; omega) | simpa only [Ny181.out, List.length_set] using h_); have ql187 : ((a1 : Int) < ((x9_2.length : Int) : Int)) = True := eq_true (of_decide_eq_true (by first | (with_reducible assumption) | assumption)); obtain ⟨ad187, e187, hx187_0, hx187_1, hx187_2, hx187_3⟩ := at_T39 (Kd.R_reads' HO_9.out).2.2 a1 p187 q187; obtain rfl : (⟨go21, 0, none⟩ : Addr) = ad187 := (by injection e187); (first | simp only [add_plain] at hx187_0 | simp only [add_at] at hx187_0 | simp only [Addr.add, Nat.zero_add] at hx187_0 | skip); (first | simp only [add_plain] at hx187_1 | simp only [add_at] at hx187_1 | simp only [Addr.add, Nat.zero_add] at hx187_1 | skip); (first | simp only [add_plain] at hx187_2 | simp only [add_at] at hx187_2 | simp only [Addr.add, Nat.zero_add] at hx187_2 | skip); (first | simp only [add_plain] at hx187_3 | simp only [add_at] at hx187_3 | simp only [Addr.add, Nat.zero_add] at hx187_3 | skip); replace p187 := eq_true p187; replace q187 := eq_true q187)))
               (try simp only [← hl9_2])
               go_roundg k2
               case measure => have := HJ4.out; have := HK2.out; omega
               case rel => exact ⟨(y181), (x10_2), ((rd_T39 y181 a1).f1), (by first | rfl | (simp; done) | (simp [*]; done)), (by first | rfl | (simp; done) | (simp [*]; done)), H', ⟨by have := HJ4.out; have := HK2.out; omega⟩, ⟨by (try simp only [hl9_2]); (with_reducible repeat (first | apply Kd.R_alloc | apply Kd.R_drewN | apply Kd.R_drew)); exact HO_9.out⟩, ⟨by repeat (first | (with_reducible first | exact HB.out | apply below_alloc | apply pw_below_drewN | apply below_drew1) | exact HB.out)⟩⟩
             ·rw [if_neg c20] at H
              exact absurd H (by simp)
            ·rw [if_neg c19] at H
             exact absurd H (by simp)
           ·rw [if_neg c18] at H
            have c18b0 : decide ((wrap64 (x10_2 + 1)) < x11_2) = false := decide_eq_false c18
            clear c18
            by_cases c30 : x10_2 = 0
            ·rw [if_pos c30] at H
             have c30b0 : (x10_2 == 0) = true := beq_iff_eq.mpr c30
             have c30b1 : (x10_2 != 0) = false := bne_eq_false_iff_eq.mpr c30
             clear c30
             simp only [Option.some.injEq, Prod.mk.injEq] at H
             obtain ⟨rfl, rfl⟩ := H
             go_wp2
             repeat (go_quiet (fail); try go_wp2)
             go_ret2
             exact ⟨by first | rfl | (simp [errW_none, errW_some] <;> rfl) | (simp [*, errW_none, errW_some] <;> rfl), by repeat (first | (with_reducible first | exact HB.out | apply below_alloc | apply pw_below_drewN | apply below_drew1) | exact HB.out)⟩
            ·rw [if_neg c30] at H
             have c30b0 : (x10_2 == 0) = false := beq_eq_false_iff_ne.mpr c30
             have c30b1 : (x10_2 != 0) = true := bne_iff_ne.mpr c30
             simp only [Option.some.injEq, Prod.mk.injEq] at H
             obtain ⟨rfl, rfl⟩ := H
             go_wp2
             repeat (go_quiet (fail); try go_wp2)
             go_ret2
             exact ⟨by first | rfl | (simp [errW_none, errW_some] <;> rfl) | (simp [*, errW_none, errW_some] <;> rfl), by repeat (first | (with_reducible first | exact HB.out | apply below_alloc | apply pw_below_drewN | apply below_drew1) | exact HB.out)⟩
        ·rw [if_neg c13] at H
         exact absurd H (by simp)
       ·rw [if_neg c12] at H
        exact absurd H (by simp)
      ·rw [if_neg c10] at H
       exact absurd H (by simp)
     ·rw [if_neg c9] at H
      exact absurd H (by simp)
 ·have H1 : (some (0, some q174)) = some (r1, r2) := by rw [if_neg (show ¬ (some q174).isNone = true by simp)] at H; exact H
  clear H
  have H := H1
  clear H1
  try simp only [errW_none, errW_some]
  simp only [Option.some.injEq, Prod.mk.injEq] at H
  obtain ⟨rfl, rfl⟩ := H
  go_enter Try.func16, Try.ntmps16
  go_wp2_with (first | (go_at_call 17; (with_reducible refine (response_check.calls k _ _ l0 _ _ l2 (some q174) _ ?side1 ?side2 ?side3 ?side4 A4.out).mono ?_); (case side1 => repeat (first | exact HR0.out | (with_reducible refine Kd.C_alloc ?_ _) | (with_reducible refine Kd.C_drewN ?_ _) | (with_reducible refine Kd.C_drew ?_))); (case side2 => exact HC0.out); (case side3 => repeat (first | exact HR2.out | (with_reducible refine Kd.C_alloc ?_ _) | (with_reducible refine Kd.C_drewN ?_ _) | (with_reducible refine Kd.C_drew ?_))); (case side4 => exact HC2.out); rintro e w31 ⟨rfl, hb⟩; have n0_ := Aside0.mk (below_step (by repeat (first | (with_reducible first | exact HB.out | apply below_alloc | apply pw_below_drewN | apply below_drew1) | exact HB.out)) hb); clear HB; have HB := n0_; clear n0_; (try clear hb); (try clear hb2); (try clear hk); (try clear hi); (try simp only [errW_none, errW_some])))
  repeat (go_quiet (first | (go_at_call 17; (with_reducible refine (response_check.calls k _ _ l0 _ _ l2 (some q174) _ ?side1 ?side2 ?side3 ?side4 A4.out).mono ?_); (case side1 => repeat (first | exact HR0.out | (with_reducible refine Kd.C_alloc ?_ _) | (with_reducible refine Kd.C_drewN ?_ _) | (with_reducible refine Kd.C_drew ?_))); (case side2 => exact HC0.out); (case side3 => repeat (first | exact HR2.out | (with_reducible refine Kd.C_alloc ?_ _) | (with_reducible refine Kd.C_drewN ?_ _) | (with_reducible refine Kd.C_drew ?_))); (case side4 => exact HC2.out); rintro e w31 ⟨rfl, hb⟩; have n0_ := Aside0.mk (below_step (by repeat (first | (with_reducible first | exact HB.out | apply below_alloc | apply pw_below_drewN | apply below_drew1) | exact HB.out)) hb); clear HB; have HB := n0_; clear n0_; (try clear hb); (try clear hb2); (try clear hk); (try clear hi); (try simp only [errW_none, errW_some]))); try go_wp2_with (first | (go_at_call 17; (with_reducible refine (response_check.calls k _ _ l0 _ _ l2 (some q174) _ ?side1 ?side2 ?side3 ?side4 A4.out).mono ?_); (case side1 => repeat (first | exact HR0.out | (with_reducible refine Kd.C_alloc ?_ _) | (with_reducible refine Kd.C_drewN ?_ _) | (with_reducible refine Kd.C_drew ?_))); (case side2 => exact HC0.out); (case side3 => repeat (first | exact HR2.out | (with_reducible refine Kd.C_alloc ?_ _) | (with_reducible refine Kd.C_drewN ?_ _) | (with_reducible refine Kd.C_drew ?_))); (case side4 => exact HC2.out); rintro e w31 ⟨rfl, hb⟩; have n0_ := Aside0.mk (below_step (by repeat (first | (with_reducible first | exact HB.out | apply below_alloc | apply pw_below_drewN | apply below_drew1) | exact HB.out)) hb); clear HB; have HB := n0_; clear n0_; (try clear hb); (try clear hb2); (try clear hk); (try clear hi); (try simp only [errW_none, errW_some]))))
  go_ret2
  exact ⟨by first | rfl | (simp [errW_none, errW_some] <;> rfl) | (simp [*, errW_none, errW_some] <;> rfl), by repeat (first | (with_reducible first | exact HB.out | apply below_alloc | apply pw_below_drewN | apply below_drew1) | exact HB.out)⟩

end Go.Proofs.Ytffckkjaeekanaa.B
