/- Proved here: what the machine does at calls of the functions that the laws reach is what plain functions of the same names say, or a row of the given statement out of that. No conditions. Written by a program of this session over the printer of the kit. -/
import Derived.Test.YtadkgcjmacccnaaAudV
import Derived.Test.YtadkgcjmacccnaaAudW
import Derived.Test.YtadkgcjmacccnaaCx0
import Derived.Test.YtadkgcjmacccnaaCx3
import Derived.Test.YtadkgcjmacccnaaCx8
import Derived.Test.YtadkgcjmacccnaaCx12
import Derived.Test.YtadkgcjmacccnaaCx14
import Derived.Test.YtadkgcjmacccnaaCx15
import Derived.Test.YtadkgcjmacccnaaCx16
namespace Go.Proofs.Ytadkgcjmacccnaa.C
open Go.RowKit Go.Proofs.YtadkgcjmacccnaaW.PrintWords Go.Proofs.YtadkgcjmacccnaaW.PrintLast Go.Proofs.YtadkgcjmacccnaaW.PrintMore
attribute [local go_sem] max2_int min2_int max_two min_two max_three min_three max_four min_four   -- for this text's walks alone
set_option linter.unusedVariables false
set_option linter.unusedSimpArgs false

/-! ### tithelaw22_works: function 12 -/
def tithelaw22_works.f (k : Nat)  : Option (Bool) := (some (([(⟨10, 3, 10, 0⟩ : S43), (⟨15, 4, 15, 1⟩ : S43)] : List (S43)) : List (S43))).bind fun y259 => ((response_All.f k y259 ([] : List (S57))).bind fun bt262 => ((response_Time.f k y259 0 (([(⟨2, 5⟩ : S57)] : List (S57)))).bind fun bt269 => ((response_Most.f k y259 1 ([] : List (S57))).bind fun bt271 => (if (bt262.1.length : Int) = 2 then (if 0 < (bt262.1.length : Int) then (if (rd bt262.1 0) = 3 then (if 1 < (bt262.1.length : Int) then (if (rd bt262.1 1) = 7 then (if bt262.2.isNone = true then ((tithelaw22_num.f bt269.2).bind fun t276 => (if t276 = 220 then (if bt271.1 = 9 then (if bt271.2.isNone = true then ((response_Fits.f k y259 ([] : List (S57))).bind fun t278 => (if t278.isNone = true then (some true) else (none))) else (none)) else (none)) else (none))) else (none)) else (none)) else (none)) else (none)) else (none)) else (none)))))
theorem tithelaw22_works.mono : ∀ k, LeO (tithelaw22_works.f k ) (tithelaw22_works.f (k + 1) ) := by
 intro  k
 unfold tithelaw22_works.f
 repeat' first
   | (with_reducible exact response_All.mono _ _ _)
   | (with_reducible exact response_Fits.mono _ _ _)
   | (with_reducible exact response_Most.mono _ _ _ _)
   | (with_reducible exact response_Time.mono _ _ _ _)
   | (with_reducible exact LeO.refl _)
   | (with_reducible exact LeO.none _)
   | (with_reducible refine LeO.ite ?_ ?_)
   | (with_reducible refine LeO.bind ?_ (fun _ => ?_))
   | exact response_All.mono _ _ _
   | exact response_Fits.mono _ _ _
   | exact response_Most.mono _ _ _ _
   | exact response_Time.mono _ _ _ _
   | exact LeO.none _
   | refine LeO.ite ?_ ?_
   | refine LeO.bind ?_ (fun _ => ?_)
set_option maxHeartbeats 8000000 in
set_option maxRecDepth 100000 in
theorem tithelaw22_works.calls (k : Nat)  (r : Bool) (w : World) (h : tithelaw22_works.f k  = some r) :
  Calls Try.prog 12 #[] w fun e w' => e = .returned (.bool r) ∧ Below w.heap.size w w' := by
 have hu43 := Try.underlying43
 have hu57 := Try.underlying57
 have hu26 := Try.underlying26
 have hu46 := Try.underlying46
 have HB := Aside0.mk (Below.refl w.heap.size w)
 have H : ((some (([(⟨10, 3, 10, 0⟩ : S43), (⟨15, 4, 15, 1⟩ : S43)] : List (S43)) : List (S43))).bind fun y259 => ((response_All.f k y259 ([] : List (S57))).bind fun bt262 => ((response_Time.f k y259 0 (([(⟨2, 5⟩ : S57)] : List (S57)))).bind fun bt269 => ((response_Most.f k y259 1 ([] : List (S57))).bind fun bt271 => (if (bt262.1.length : Int) = 2 then (if 0 < (bt262.1.length : Int) then (if (rd bt262.1 0) = 3 then (if 1 < (bt262.1.length : Int) then (if (rd bt262.1 1) = 7 then (if bt262.2.isNone = true then ((tithelaw22_num.f bt269.2).bind fun t276 => (if t276 = 220 then (if bt271.1 = 9 then (if bt271.2.isNone = true then ((response_Fits.f k y259 ([] : List (S57))).bind fun t278 => (if t278.isNone = true then (some true) else (none))) else (none)) else (none)) else (none))) else (none)) else (none)) else (none)) else (none)) else (none)) else (none)))))) = some r := h
 clear h
 obtain ⟨y259, hy259⟩ : ∃ y_ : List (S43), y_ = (([(⟨10, 3, 10, 0⟩ : S43), (⟨15, 4, 15, 1⟩ : S43)] : List (S43))) := ⟨_, rfl⟩
 replace H : ((response_All.f k y259 ([] : List (S57))).bind fun bt262 => ((response_Time.f k y259 0 (([(⟨2, 5⟩ : S57)] : List (S57)))).bind fun bt269 => ((response_Most.f k y259 1 ([] : List (S57))).bind fun bt271 => (if (bt262.1.length : Int) = 2 then (if 0 < (bt262.1.length : Int) then (if (rd bt262.1 0) = 3 then (if 1 < (bt262.1.length : Int) then (if (rd bt262.1 1) = 7 then (if bt262.2.isNone = true then ((tithelaw22_num.f bt269.2).bind fun t276 => (if t276 = 220 then (if bt271.1 = 9 then (if bt271.2.isNone = true then ((response_Fits.f k y259 ([] : List (S57))).bind fun t278 => (if t278.isNone = true then (some true) else (none))) else (none)) else (none)) else (none))) else (none)) else (none)) else (none)) else (none)) else (none)) else (none))))) = some r := by first | (rw [hy259]; with_reducible exact H) | (have H2_ := (Option.bind_some _ _).symm.trans H; rw [hy259]; with_reducible exact H2_) | (have H2_ := (Option.bind_some _ _).symm.trans H; with_reducible exact H2_) | with_reducible exact H | (rw [hy259]; exact H) | exact H
 have Ny259 := Aside0.mk hy259
 clear hy259
 replace H := Option.bind_eq_some_iff.mp H
 obtain ⟨⟨t262, t263⟩, A10, H⟩ := H
 replace H : ((response_Time.f k y259 0 (([(⟨2, 5⟩ : S57)] : List (S57)))).bind fun bt269 => ((response_Most.f k y259 1 ([] : List (S57))).bind fun bt271 => (if (t262.length : Int) = 2 then (if 0 < (t262.length : Int) then (if (rd t262 0) = 3 then (if 1 < (t262.length : Int) then (if (rd t262 1) = 7 then (if t263.isNone = true then ((tithelaw22_num.f bt269.2).bind fun t276 => (if t276 = 220 then (if bt271.1 = 9 then (if bt271.2.isNone = true then ((response_Fits.f k y259 ([] : List (S57))).bind fun t278 => (if t278.isNone = true then (some true) else (none))) else (none)) else (none)) else (none))) else (none)) else (none)) else (none)) else (none)) else (none)) else (none)))) = some r := H
 have A1 := Aside0.mk A10
 clear A10
 obtain ⟨y266, hy266⟩ : ∃ y_ : List (S57), y_ = (([(⟨2, 5⟩ : S57)] : List (S57))) := ⟨_, rfl⟩
 replace H : ((response_Time.f k y259 0 y266).bind fun bt269 => ((response_Most.f k y259 1 ([] : List (S57))).bind fun bt271 => (if (t262.length : Int) = 2 then (if 0 < (t262.length : Int) then (if (rd t262 0) = 3 then (if 1 < (t262.length : Int) then (if (rd t262 1) = 7 then (if t263.isNone = true then ((tithelaw22_num.f bt269.2).bind fun t276 => (if t276 = 220 then (if bt271.1 = 9 then (if bt271.2.isNone = true then ((response_Fits.f k y259 ([] : List (S57))).bind fun t278 => (if t278.isNone = true then (some true) else (none))) else (none)) else (none)) else (none))) else (none)) else (none)) else (none)) else (none)) else (none)) else (none)))) = some r := by first | (rw [hy266]; with_reducible exact H) | (have H2_ := (Option.bind_some _ _).symm.trans H; rw [hy266]; with_reducible exact H2_) | (have H2_ := (Option.bind_some _ _).symm.trans H; with_reducible exact H2_) | with_reducible exact H | (rw [hy266]; exact H) | exact H
 have Ny266 := Aside0.mk hy266
 clear hy266
 replace H := Option.bind_eq_some_iff.mp H
 obtain ⟨⟨t269, t270⟩, A20, H⟩ := H
 replace H : ((response_Most.f k y259 1 ([] : List (S57))).bind fun bt271 => (if (t262.length : Int) = 2 then (if 0 < (t262.length : Int) then (if (rd t262 0) = 3 then (if 1 < (t262.length : Int) then (if (rd t262 1) = 7 then (if t263.isNone = true then ((tithelaw22_num.f t270).bind fun t276 => (if t276 = 220 then (if bt271.1 = 9 then (if bt271.2.isNone = true then ((response_Fits.f k y259 ([] : List (S57))).bind fun t278 => (if t278.isNone = true then (some true) else (none))) else (none)) else (none)) else (none))) else (none)) else (none)) else (none)) else (none)) else (none)) else (none))) = some r := H
 have A2 := Aside0.mk A20
 clear A20
 replace H := Option.bind_eq_some_iff.mp H
 obtain ⟨⟨t271, t272⟩, A30, H⟩ := H
 replace H : (if (t262.length : Int) = 2 then (if 0 < (t262.length : Int) then (if (rd t262 0) = 3 then (if 1 < (t262.length : Int) then (if (rd t262 1) = 7 then (if t263.isNone = true then ((tithelaw22_num.f t270).bind fun t276 => (if t276 = 220 then (if t271 = 9 then (if t272.isNone = true then ((response_Fits.f k y259 ([] : List (S57))).bind fun t278 => (if t278.isNone = true then (some true) else (none))) else (none)) else (none)) else (none))) else (none)) else (none)) else (none)) else (none)) else (none)) else (none)) = some r := H
 have A3 := Aside0.mk A30
 clear A30
 by_cases c4 : (t262.length : Int) = 2
 ·rw [if_pos c4] at H
  have c4b0 : ((t262.length : Int) == 2) = true := beq_iff_eq.mpr c4
  have c4b1 : ((t262.length : Int) != 2) = false := bne_eq_false_iff_eq.mpr c4
  clear c4
  by_cases c5 : 0 < (t262.length : Int)
  ·rw [if_pos c5] at H
   have c5b0 : decide (0 < (t262.length : Int)) = true := decide_eq_true c5
   have c5b1 : decide (0 < t262.length) = true := decide_eq_true (by omega)
   clear c5
   by_cases c6 : (rd t262 0) = 3
   ·rw [if_pos c6] at H
    have c6b0 : ((rd t262 0) == 3) = true := beq_iff_eq.mpr c6
    have c6b1 : ((rd t262 0) != 3) = false := bne_eq_false_iff_eq.mpr c6
    clear c6
    by_cases c7 : 1 < (t262.length : Int)
    ·rw [if_pos c7] at H
     have c7b0 : decide (1 < (t262.length : Int)) = true := decide_eq_true c7
     have c7b1 : decide (1 < t262.length) = true := decide_eq_true (by omega)
     clear c7
     by_cases c8 : (rd t262 1) = 7
     ·rw [if_pos c8] at H
      have c8b0 : ((rd t262 1) == 7) = true := beq_iff_eq.mpr c8
      have c8b1 : ((rd t262 1) != 7) = false := bne_eq_false_iff_eq.mpr c8
      clear c8
      rcases t263 with _ | q275
      ·have H1 : ((tithelaw22_num.f t270).bind fun t276 => (if t276 = 220 then (if t271 = 9 then (if t272.isNone = true then ((response_Fits.f k y259 ([] : List (S57))).bind fun t278 => (if t278.isNone = true then (some true) else (none))) else (none)) else (none)) else (none))) = some r := by rw [if_pos (show (none : Option Int).isNone = true by rfl)] at H; exact H
       clear H
       have H := H1
       clear H1
       try simp only [errW_none, errW_some]
       replace H := Option.bind_eq_some_iff.mp H
       obtain ⟨t276, A90, H⟩ := H
       replace H : (if t276 = 220 then (if t271 = 9 then (if t272.isNone = true then ((response_Fits.f k y259 ([] : List (S57))).bind fun t278 => (if t278.isNone = true then (some true) else (none))) else (none)) else (none)) else (none)) = some r := H
       have A9 := Aside0.mk A90
       clear A90
       by_cases c10 : t276 = 220
       ·rw [if_pos c10] at H
        have c10b0 : (t276 == 220) = true := beq_iff_eq.mpr c10
        have c10b1 : (t276 != 220) = false := bne_eq_false_iff_eq.mpr c10
        clear c10
        by_cases c11 : t271 = 9
        ·rw [if_pos c11] at H
         have c11b0 : (t271 == 9) = true := beq_iff_eq.mpr c11
         have c11b1 : (t271 != 9) = false := bne_eq_false_iff_eq.mpr c11
         clear c11
         rcases t272 with _ | q277
         ·have H1 : ((response_Fits.f k y259 ([] : List (S57))).bind fun t278 => (if t278.isNone = true then (some true) else (none))) = some r := by rw [if_pos (show (none : Option Int).isNone = true by rfl)] at H; exact H
          clear H
          have H := H1
          clear H1
          try simp only [errW_none, errW_some]
          replace H := Option.bind_eq_some_iff.mp H
          obtain ⟨t278, A120, H⟩ := H
          replace H : (if t278.isNone = true then (some true) else (none)) = some r := H
          have A12 := Aside0.mk A120
          clear A120
          rcases t278 with _ | q279
          ·have H1 : (some true) = some r := by rw [if_pos (show (none : Option Int).isNone = true by rfl)] at H; exact H
           clear H
           have H := H1
           clear H1
           try simp only [errW_none, errW_some]
           obtain rfl := Option.some.inj H
           go_enter Try.func12, Try.ntmps12
           go_wp2_with (first | ((with_reducible refine gate_dst (N := 10) rfl ?_); refine Kd.R_lit k43 _ 43 ?hg (N := 10) ?hd (xs := ([(⟨10, 3, 10, 0⟩ : S43), (⟨15, 4, 15, 1⟩ : S43)] : List (S43))) (inner := [.int .i64 10, .int .i64 3, .int .i64 10, .int .i64 0, .int .i64 15, .int .i64 4, .int .i64 15, .int .i64 1]) (ok := fun _ => True) (okp := fun _ => True) ?hr ?hp (fun _ hk => hk) trivial (Below.refl _ _) (Nat.le_refl _) (by simp) ?_; (case hd => rfl); (case hg => rfl); (case hr => first | (go_simp; done) | (go_simp; rfl)); (case hp => exact (Reps.c4 (show Kd.M k43 _ _ _ (⟨10, 3, 10, 0⟩ : S43) [.int .i64 10, .int .i64 3, .int .i64 10, .int .i64 0] from (k43_mkM _ _ _ (⟨10, 3, 10, 0⟩ : S43) )) (Reps.c4 (show Kd.M k43 _ _ _ (⟨15, 4, 15, 1⟩ : S43) [.int .i64 15, .int .i64 4, .int .i64 15, .int .i64 1] from (k43_mkM _ _ _ (⟨15, 4, 15, 1⟩ : S43) )) (Reps.none _ _)))); intro v260 w13 ho14 hb hg_ hnew_; clear hg_ hnew_; (first | rw [← Ny259.out] at ho14 | (simp only [Int.reduceToNat] at ho14; rw [← Ny259.out] at ho14)); have n0_ := Aside0.mk (Kd.R_lower ho14 (below_size (by repeat (first | (with_reducible first | exact HB.out | apply below_alloc | apply pw_below_drewN | apply below_drew1) | exact HB.out)))); have n1_ := Aside0.mk (below_step (by repeat (first | (with_reducible first | exact HB.out | apply below_alloc | apply pw_below_drewN | apply below_drew1) | exact HB.out)) hb); clear HB; have HO261 := n0_; have HB := n1_; clear n0_ n1_; clear hb ho14; obtain ⟨Ao15, co15, eo15⟩ := Kd.R_slice HO261.out; subst eo15) | ((with_reducible refine gate_callee (f := 20) rfl ?_); refine goesL_ (some 13) rfl rfl Try.func20 (by kernel_rfl) rfl #[.slice Ao15 y259.length co15, .slice none 0 0] rfl (by (try simp only [List.map_toArray, List.map_cons, List.map_nil]); first | done | rfl | (simp only [List.length_drop, List.length_take]; rfl)) ?_; (refine (response_All.calls k _ _ y259 _ _ ([] : List (S57)) t262 none _ ?side1 ?side2 ?side3 ?side4 A1.out).mono ?_); (case side1 => repeat (first | exact (Kd.R_reads' HO261.out).2.2 | (with_reducible refine Kd.C_alloc ?_ _) | (with_reducible refine Kd.C_drewN ?_ _) | (with_reducible refine Kd.C_drew ?_))); (case side2 => exact (Kd.R_reads' HO261.out).2.1); (case side3 => exact Kd.C_nil _ _); (case side4 => exact Nat.le_refl _); rintro e w16 ⟨v264, rfl, ho0, hb⟩; refine ⟨_, rfl, ?_⟩; have n0_ := Aside0.mk (Kd.R_below (by (with_reducible repeat (first | apply Kd.R_alloc | apply Kd.R_drewN | apply Kd.R_drew)); exact HO261.out) hb); have n1_ := Aside0.mk (Kd.R_lower ho0 (below_size (by repeat (first | (with_reducible first | exact HB.out | apply below_alloc | apply pw_below_drewN | apply below_drew1) | exact HB.out)))); have n2_ := Aside0.mk (below_step (by repeat (first | (with_reducible first | exact HB.out | apply below_alloc | apply pw_below_drewN | apply below_drew1) | exact HB.out)) hb); clear HO261; clear HB; have HO261 := n0_; have HO265 := n1_; have HB := n2_; clear n0_ n1_ n2_; (try clear hb); (try clear hb2); (try clear hk); (try clear hi); (try clear ho0); (try simp only [errW_none, errW_some])) | ((with_reducible refine gate_dst (N := 19) rfl ?_); refine Kd.R_lit k57 _ 57 ?hg (N := 19) ?hd (xs := ([(⟨2, 5⟩ : S57)] : List (S57))) (inner := [.int .i64 2, .int .i64 5]) (ok := fun _ => True) (okp := fun _ => True) ?hr ?hp (fun _ hk => hk) trivial (Below.refl _ _) (Nat.le_refl _) (by simp) ?_; (case hd => rfl); (case hg => rfl); (case hr => first | (go_simp; done) | (go_simp; rfl)); (case hp => exact (Reps.c2 (show Kd.M k57 _ _ _ (⟨2, 5⟩ : S57) [.int .i64 2, .int .i64 5] from (k57_mkM _ _ _ (⟨2, 5⟩ : S57) )) (Reps.none _ _))); intro v267 w17 ho18 hb hg_ hnew_; clear hg_ hnew_; (first | rw [← Ny266.out] at ho18 | (simp only [Int.reduceToNat] at ho18; rw [← Ny266.out] at ho18)); have n0_ := Aside0.mk (Kd.R_below (by (with_reducible repeat (first | apply Kd.R_alloc | apply Kd.R_drewN | apply Kd.R_drew)); exact HO261.out) hb); have n1_ := Aside0.mk (Kd.R_below (by (with_reducible repeat (first | apply Kd.R_alloc | apply Kd.R_drewN | apply Kd.R_drew)); exact HO265.out) hb); have n2_ := Aside0.mk (Kd.R_lower ho18 (below_size (by repeat (first | (with_reducible first | exact HB.out | apply below_alloc | apply pw_below_drewN | apply below_drew1) | exact HB.out)))); have n3_ := Aside0.mk (below_step (by repeat (first | (with_reducible first | exact HB.out | apply below_alloc | apply pw_below_drewN | apply below_drew1) | exact HB.out)) hb); clear HO261; clear HO265; clear HB; have HO261 := n0_; have HO265 := n1_; have HO268 := n2_; have HB := n3_; clear n0_ n1_ n2_ n3_; clear hb ho18; obtain ⟨Ao19, co19, eo19⟩ := Kd.R_slice HO268.out; subst eo19) | ((with_reducible refine gate_callee (f := 21) rfl ?_); refine goesL_ (some 20) rfl rfl Try.func21 (by kernel_rfl) rfl #[.slice Ao15 y259.length co15, .int .i64 0, .slice Ao19 y266.length co19] rfl (by (try simp only [List.map_toArray, List.map_cons, List.map_nil]); first | done | rfl | (simp only [List.length_drop, List.length_take]; rfl)) ?_; (with_reducible refine (response_Time.calls k _ _ y259 0 _ _ y266 t269 t270 _ ?side1 ?side2 ?side3 ?side4 A2.out).mono ?_); (case side1 => repeat (first | exact (Kd.R_reads' HO261.out).2.2 | (with_reducible refine Kd.C_alloc ?_ _) | (with_reducible refine Kd.C_drewN ?_ _) | (with_reducible refine Kd.C_drew ?_))); (case side2 => exact (Kd.R_reads' HO261.out).2.1); (case side3 => repeat (first | exact (Kd.R_reads' HO268.out).2.2 | (with_reducible refine Kd.C_alloc ?_ _) | (with_reducible refine Kd.C_drewN ?_ _) | (with_reducible refine Kd.C_drew ?_))); (case side4 => exact (Kd.R_reads' HO268.out).2.1); rintro e w20 ⟨rfl, hb⟩; refine ⟨_, rfl, ?_⟩; have n0_ := Aside0.mk (Kd.R_below (by (with_reducible repeat (first | apply Kd.R_alloc | apply Kd.R_drewN | apply Kd.R_drew)); exact HO261.out) hb); have n1_ := Aside0.mk (Kd.R_below (by (with_reducible repeat (first | apply Kd.R_alloc | apply Kd.R_drewN | apply Kd.R_drew)); exact HO265.out) hb); have n2_ := Aside0.mk (Kd.R_below (by (with_reducible repeat (first | apply Kd.R_alloc | apply Kd.R_drewN | apply Kd.R_drew)); exact HO268.out) hb); have n3_ := Aside0.mk (below_step (by repeat (first | (with_reducible first | exact HB.out | apply below_alloc | apply pw_below_drewN | apply below_drew1) | exact HB.out)) hb); clear HO261; clear HO265; clear HO268; clear HB; have HO261 := n0_; have HO265 := n1_; have HO268 := n2_; have HB := n3_; clear n0_ n1_ n2_ n3_; (try clear hb); (try clear hb2); (try clear hk); (try clear hi); (try simp only [errW_none, errW_some])) | ((with_reducible refine gate_callee (f := 8) rfl ?_); refine goesL_ (some 25) rfl rfl Try.func8 (by kernel_rfl) rfl #[.slice Ao15 y259.length co15, .int .i64 1, .slice none 0 0] rfl (by (try simp only [List.map_toArray, List.map_cons, List.map_nil]); first | done | rfl | (simp only [List.length_drop, List.length_take]; rfl)) ?_; (refine (response_Most.calls k _ _ y259 1 _ _ ([] : List (S57)) t271 none _ ?side1 ?side2 ?side3 ?side4 A3.out).mono ?_); (case side1 => repeat (first | exact (Kd.R_reads' HO261.out).2.2 | (with_reducible refine Kd.C_alloc ?_ _) | (with_reducible refine Kd.C_drewN ?_ _) | (with_reducible refine Kd.C_drew ?_))); (case side2 => exact (Kd.R_reads' HO261.out).2.1); (case side3 => exact Kd.C_nil _ _); (case side4 => exact Nat.le_refl _); rintro e w21 ⟨rfl, hb⟩; refine ⟨_, rfl, ?_⟩; have n0_ := Aside0.mk (Kd.R_below (by (with_reducible repeat (first | apply Kd.R_alloc | apply Kd.R_drewN | apply Kd.R_drew)); exact HO261.out) hb); have n1_ := Aside0.mk (Kd.R_below (by (with_reducible repeat (first | apply Kd.R_alloc | apply Kd.R_drewN | apply Kd.R_drew)); exact HO265.out) hb); have n2_ := Aside0.mk (Kd.R_below (by (with_reducible repeat (first | apply Kd.R_alloc | apply Kd.R_drewN | apply Kd.R_drew)); exact HO268.out) hb); have n3_ := Aside0.mk (below_step (by repeat (first | (with_reducible first | exact HB.out | apply below_alloc | apply pw_below_drewN | apply below_drew1) | exact HB.out)) hb); clear HO261; clear HO265; clear HO268; clear HB; have HO261 := n0_; have HO265 := n1_; have HO268 := n2_; have HB := n3_; clear n0_ n1_ n2_ n3_; (try clear hb); (try clear hb2); (try clear hk); (try clear hi); (try simp only [errW_none, errW_some]); obtain ⟨Ao22, co22, eo22⟩ := Kd.R_slice HO265.out; subst eo22; have p273 : 0 ≤ (0 : Int) := (by omega); have q273 : 0 < (t262.length : Int) := of_decide_eq_true (by first | (with_reducible assumption) | assumption); obtain ⟨ad273, e273, hx273_0⟩ := Kd.at_int (Kd.R_reads' HO265.out).2.2 0 p273 q273; cases e273; have qi273 : (0 < t262.length) = True := eq_true (by omega); (try rw [show ((0 : Int)).toNat = 0 from rfl] at hx273_0); (try rw [Addr.add_zero'] at hx273_0); replace p273 := eq_true p273; replace q273 := eq_true q273; have p274 : 0 ≤ (1 : Int) := (by omega); have q274 : 1 < (t262.length : Int) := of_decide_eq_true (by first | (with_reducible assumption) | assumption); obtain ⟨ad274, e274, hx274_0⟩ := Kd.at_int (Kd.R_reads' HO265.out).2.2 1 p274 q274; obtain rfl : ad273 = ad274 := (by injection e274); (try simp only [show (1 : Int).toNat = 1 from rfl, Nat.reduceMul, Nat.reduceEqDiff, Go.Addr.add, ↓reduceIte] at hx274_0); have qi274 : (1 < t262.length) = True := eq_true (by omega); (try rw [show ((1 : Int)).toNat = 1 from rfl] at hx274_0); replace p274 := eq_true p274; replace q274 := eq_true q274; have CA9 := fun W => tithelaw22_num.calls t270 t276 W A9.out; try simp only [errW_none, errW_some] at CA9) | (go_at_call 11; (with_reducible refine (CA9 _).mono ?_); rintro e w' ⟨rfl, ⟨nd, rfl⟩⟩) | (go_at_call 22; (refine (response_Fits.calls k _ _ y259 _ _ ([] : List (S57)) none _ ?side1 ?side2 ?side3 ?side4 A12.out).mono ?_); (case side1 => repeat (first | exact (Kd.R_reads' HO261.out).2.2 | (with_reducible refine Kd.C_alloc ?_ _) | (with_reducible refine Kd.C_drewN ?_ _) | (with_reducible refine Kd.C_drew ?_))); (case side2 => exact (Kd.R_reads' HO261.out).2.1); (case side3 => exact Kd.C_nil _ _); (case side4 => exact Nat.le_refl _); rintro e w23 ⟨rfl, hb⟩; have n0_ := Aside0.mk (Kd.R_below (by (with_reducible repeat (first | apply Kd.R_alloc | apply Kd.R_drewN | apply Kd.R_drew)); exact HO261.out) hb); have n1_ := Aside0.mk (Kd.R_below (by (with_reducible repeat (first | apply Kd.R_alloc | apply Kd.R_drewN | apply Kd.R_drew)); exact HO265.out) hb); have n2_ := Aside0.mk (Kd.R_below (by (with_reducible repeat (first | apply Kd.R_alloc | apply Kd.R_drewN | apply Kd.R_drew)); exact HO268.out) hb); have n3_ := Aside0.mk (below_step (by repeat (first | (with_reducible first | exact HB.out | apply below_alloc | apply pw_below_drewN | apply below_drew1) | exact HB.out)) hb); clear HO261; clear HO265; clear HO268; clear HB; have HO261 := n0_; have HO265 := n1_; have HO268 := n2_; have HB := n3_; clear n0_ n1_ n2_ n3_; (try clear hb); (try clear hb2); (try clear hk); (try clear hi); (try simp only [errW_none, errW_some])))
           go_ret
           exact ⟨by first | rfl | (simp [errW_none, errW_some] <;> rfl) | (simp [*, errW_none, errW_some] <;> rfl), by repeat (first | (with_reducible first | exact HB.out | apply below_alloc | apply pw_below_drewN | apply below_drew1) | exact HB.out)⟩
          ·have H1 : (none) = some r := by rw [if_neg (show ¬ (some q279).isNone = true by simp)] at H; exact H
           exact absurd H1 (by simp)
         ·have H1 : (none) = some r := by rw [if_neg (show ¬ (some q277).isNone = true by simp)] at H; exact H
          exact absurd H1 (by simp)
        ·rw [if_neg c11] at H; exact absurd H (by simp)
       ·rw [if_neg c10] at H; exact absurd H (by simp)
      ·have H1 : (none) = some r := by rw [if_neg (show ¬ (some q275).isNone = true by simp)] at H; exact H
       exact absurd H1 (by simp)
     ·rw [if_neg c8] at H; exact absurd H (by simp)
    ·rw [if_neg c7] at H
     exact absurd H (by simp)
   ·rw [if_neg c6] at H; exact absurd H (by simp)
  ·rw [if_neg c5] at H
   exact absurd H (by simp)
 ·rw [if_neg c4] at H; exact absurd H (by simp)

/-! ### tithelaw22_ResponseChoices: function 3 -/
def tithelaw22_ResponseChoices.f (k : Nat) (l0 : List (S43)) (a1 : Int) (l2 : List (S57)) : Option (Bool) := (tithelaw22_twin.f l0).bind fun t280 => ((tithelaw22_row.f l2).bind fun t283 => ((response_Audsley.f k t280 t283).bind fun bt286 => ((titheref22_Audsley.f k l0 l2).bind fun bt290 => ((tithelaw22_row.f l2).bind fun t294 => ((response_Most.f k t280 a1 t294).bind fun bt297 => ((titheref22_Most.f k l0 a1 l2).bind fun bt299 => ((tithelaw22_same.f k bt286.1 bt290.1).bind fun t301 => (if t301 = true then ((tithelaw22_num.f bt286.2).bind fun t302 => (if t302 = bt290.2 then (if bt297.1 = bt299.1 then ((tithelaw22_num.f bt297.2).bind fun t303 => (if t303 = bt299.2 then ((tithelaw22_same.f k t280 l0).bind fun t304 => (if t304 = true then ((tithelaw22_works.f k).bind fun t305 => (some t305)) else (none))) else (none))) else (none)) else (none))) else (none)))))))))
theorem tithelaw22_ResponseChoices.mono : ∀ a0 a1 a2 k, LeO (tithelaw22_ResponseChoices.f k a0 a1 a2) (tithelaw22_ResponseChoices.f (k + 1) a0 a1 a2) := by
 intro a0 a1 a2 k
 unfold tithelaw22_ResponseChoices.f
 repeat' first
   | (with_reducible exact response_Audsley.mono _ _ _)
   | (with_reducible exact response_Most.mono _ _ _ _)
   | (with_reducible exact tithelaw22_same.mono _ _ _)
   | (with_reducible exact tithelaw22_works.mono _)
   | (with_reducible exact titheref22_Audsley.mono _ _ _)
   | (with_reducible exact titheref22_Most.mono _ _ _ _)
   | (with_reducible exact LeO.refl _)
   | (with_reducible exact LeO.none _)
   | (with_reducible refine LeO.ite ?_ ?_)
   | (with_reducible refine LeO.bind ?_ (fun _ => ?_))
   | exact response_Audsley.mono _ _ _
   | exact response_Most.mono _ _ _ _
   | exact tithelaw22_same.mono _ _ _
   | exact tithelaw22_works.mono _
   | exact titheref22_Audsley.mono _ _ _
   | exact titheref22_Most.mono _ _ _ _
   | exact LeO.none _
   | refine LeO.ite ?_ ?_
   | refine LeO.bind ?_ (fun _ => ?_)
set_option maxHeartbeats 8000000 in
set_option maxRecDepth 100000 in
theorem tithelaw22_ResponseChoices.calls (k : Nat) (A0 : Option Addr) (c0 : Nat) (l0 : List (S43)) (a1 : Int) (A2 : Option Addr) (c2 : Nat) (l2 : List (S57)) (r : Bool) (w : World) (hr0 : Kd.C k43 w A0 l0.length l0) (hc0 : l0.length ≤ c0) (hr2 : Kd.C k57 w A2 l2.length l2) (hc2 : l2.length ≤ c2) (h : tithelaw22_ResponseChoices.f k l0 a1 l2 = some r) :
  Calls Try.prog 3 #[.slice A0 l0.length c0, .int .i64 a1, .slice A2 l2.length c2] w fun e w' => e = .returned (.bool r) ∧ Below w.heap.size w w' := by
 have HR0 := Aside0.mk hr0
 have HC0 := Aside0.mk hc0
 clear hr0 hc0
 have HR2 := Aside0.mk hr2
 have HC2 := Aside0.mk hc2
 clear hr2 hc2
 have HB := Aside0.mk (Below.refl w.heap.size w)
 have H : ((tithelaw22_twin.f l0).bind fun t280 => ((tithelaw22_row.f l2).bind fun t283 => ((response_Audsley.f k t280 t283).bind fun bt286 => ((titheref22_Audsley.f k l0 l2).bind fun bt290 => ((tithelaw22_row.f l2).bind fun t294 => ((response_Most.f k t280 a1 t294).bind fun bt297 => ((titheref22_Most.f k l0 a1 l2).bind fun bt299 => ((tithelaw22_same.f k bt286.1 bt290.1).bind fun t301 => (if t301 = true then ((tithelaw22_num.f bt286.2).bind fun t302 => (if t302 = bt290.2 then (if bt297.1 = bt299.1 then ((tithelaw22_num.f bt297.2).bind fun t303 => (if t303 = bt299.2 then ((tithelaw22_same.f k t280 l0).bind fun t304 => (if t304 = true then ((tithelaw22_works.f k).bind fun t305 => (some t305)) else (none))) else (none))) else (none)) else (none))) else (none)))))))))) = some r := h
 clear h
 replace H := Option.bind_eq_some_iff.mp H
 obtain ⟨t280, A40, H⟩ := H
 replace H : ((tithelaw22_row.f l2).bind fun t283 => ((response_Audsley.f k t280 t283).bind fun bt286 => ((titheref22_Audsley.f k l0 l2).bind fun bt290 => ((tithelaw22_row.f l2).bind fun t294 => ((response_Most.f k t280 a1 t294).bind fun bt297 => ((titheref22_Most.f k l0 a1 l2).bind fun bt299 => ((tithelaw22_same.f k bt286.1 bt290.1).bind fun t301 => (if t301 = true then ((tithelaw22_num.f bt286.2).bind fun t302 => (if t302 = bt290.2 then (if bt297.1 = bt299.1 then ((tithelaw22_num.f bt297.2).bind fun t303 => (if t303 = bt299.2 then ((tithelaw22_same.f k t280 l0).bind fun t304 => (if t304 = true then ((tithelaw22_works.f k).bind fun t305 => (some t305)) else (none))) else (none))) else (none)) else (none))) else (none))))))))) = some r := H
 have A4 := Aside0.mk A40
 clear A40
 replace H := Option.bind_eq_some_iff.mp H
 obtain ⟨t283, A50, H⟩ := H
 replace H : ((response_Audsley.f k t280 t283).bind fun bt286 => ((titheref22_Audsley.f k l0 l2).bind fun bt290 => ((tithelaw22_row.f l2).bind fun t294 => ((response_Most.f k t280 a1 t294).bind fun bt297 => ((titheref22_Most.f k l0 a1 l2).bind fun bt299 => ((tithelaw22_same.f k bt286.1 bt290.1).bind fun t301 => (if t301 = true then ((tithelaw22_num.f bt286.2).bind fun t302 => (if t302 = bt290.2 then (if bt297.1 = bt299.1 then ((tithelaw22_num.f bt297.2).bind fun t303 => (if t303 = bt299.2 then ((tithelaw22_same.f k t280 l0).bind fun t304 => (if t304 = true then ((tithelaw22_works.f k).bind fun t305 => (some t305)) else (none))) else (none))) else (none)) else (none))) else (none)))))))) = some r := H
 have A5 := Aside0.mk A50
 clear A50
 replace H := Option.bind_eq_some_iff.mp H
 obtain ⟨⟨t286, t287⟩, A60, H⟩ := H
 replace H : ((titheref22_Audsley.f k l0 l2).bind fun bt290 => ((tithelaw22_row.f l2).bind fun t294 => ((response_Most.f k t280 a1 t294).bind fun bt297 => ((titheref22_Most.f k l0 a1 l2).bind fun bt299 => ((tithelaw22_same.f k t286 bt290.1).bind fun t301 => (if t301 = true then ((tithelaw22_num.f t287).bind fun t302 => (if t302 = bt290.2 then (if bt297.1 = bt299.1 then ((tithelaw22_num.f bt297.2).bind fun t303 => (if t303 = bt299.2 then ((tithelaw22_same.f k t280 l0).bind fun t304 => (if t304 = true then ((tithelaw22_works.f k).bind fun t305 => (some t305)) else (none))) else (none))) else (none)) else (none))) else (none))))))) = some r := H
 have A6 := Aside0.mk A60
 clear A60
 replace H := Option.bind_eq_some_iff.mp H
 obtain ⟨⟨t290, t291⟩, A70, H⟩ := H
 replace H : ((tithelaw22_row.f l2).bind fun t294 => ((response_Most.f k t280 a1 t294).bind fun bt297 => ((titheref22_Most.f k l0 a1 l2).bind fun bt299 => ((tithelaw22_same.f k t286 t290).bind fun t301 => (if t301 = true then ((tithelaw22_num.f t287).bind fun t302 => (if t302 = t291 then (if bt297.1 = bt299.1 then ((tithelaw22_num.f bt297.2).bind fun t303 => (if t303 = bt299.2 then ((tithelaw22_same.f k t280 l0).bind fun t304 => (if t304 = true then ((tithelaw22_works.f k).bind fun t305 => (some t305)) else (none))) else (none))) else (none)) else (none))) else (none)))))) = some r := H
 have A7 := Aside0.mk A70
 clear A70
 replace H := Option.bind_eq_some_iff.mp H
 obtain ⟨t294, A80, H⟩ := H
 replace H : ((response_Most.f k t280 a1 t294).bind fun bt297 => ((titheref22_Most.f k l0 a1 l2).bind fun bt299 => ((tithelaw22_same.f k t286 t290).bind fun t301 => (if t301 = true then ((tithelaw22_num.f t287).bind fun t302 => (if t302 = t291 then (if bt297.1 = bt299.1 then ((tithelaw22_num.f bt297.2).bind fun t303 => (if t303 = bt299.2 then ((tithelaw22_same.f k t280 l0).bind fun t304 => (if t304 = true then ((tithelaw22_works.f k).bind fun t305 => (some t305)) else (none))) else (none))) else (none)) else (none))) else (none))))) = some r := H
 have A8 := Aside0.mk A80
 clear A80
 replace H := Option.bind_eq_some_iff.mp H
 obtain ⟨⟨t297, t298⟩, A90, H⟩ := H
 replace H : ((titheref22_Most.f k l0 a1 l2).bind fun bt299 => ((tithelaw22_same.f k t286 t290).bind fun t301 => (if t301 = true then ((tithelaw22_num.f t287).bind fun t302 => (if t302 = t291 then (if t297 = bt299.1 then ((tithelaw22_num.f t298).bind fun t303 => (if t303 = bt299.2 then ((tithelaw22_same.f k t280 l0).bind fun t304 => (if t304 = true then ((tithelaw22_works.f k).bind fun t305 => (some t305)) else (none))) else (none))) else (none)) else (none))) else (none)))) = some r := H
 have A9 := Aside0.mk A90
 clear A90
 replace H := Option.bind_eq_some_iff.mp H
 obtain ⟨⟨t299, t300⟩, A100, H⟩ := H
 replace H : ((tithelaw22_same.f k t286 t290).bind fun t301 => (if t301 = true then ((tithelaw22_num.f t287).bind fun t302 => (if t302 = t291 then (if t297 = t299 then ((tithelaw22_num.f t298).bind fun t303 => (if t303 = t300 then ((tithelaw22_same.f k t280 l0).bind fun t304 => (if t304 = true then ((tithelaw22_works.f k).bind fun t305 => (some t305)) else (none))) else (none))) else (none)) else (none))) else (none))) = some r := H
 have A10 := Aside0.mk A100
 clear A100
 replace H := Option.bind_eq_some_iff.mp H
 obtain ⟨t301, A110, H⟩ := H
 replace H : (if t301 = true then ((tithelaw22_num.f t287).bind fun t302 => (if t302 = t291 then (if t297 = t299 then ((tithelaw22_num.f t298).bind fun t303 => (if t303 = t300 then ((tithelaw22_same.f k t280 l0).bind fun t304 => (if t304 = true then ((tithelaw22_works.f k).bind fun t305 => (some t305)) else (none))) else (none))) else (none)) else (none))) else (none)) = some r := H
 have A11 := Aside0.mk A110
 clear A110
 by_cases c12 : t301 = true
 ·subst c12
  have H1 : ((tithelaw22_num.f t287).bind fun t302 => (if t302 = t291 then (if t297 = t299 then ((tithelaw22_num.f t298).bind fun t303 => (if t303 = t300 then ((tithelaw22_same.f k t280 l0).bind fun t304 => (if t304 = true then ((tithelaw22_works.f k).bind fun t305 => (some t305)) else (none))) else (none))) else (none)) else (none))) = some r := by rw [if_pos rfl] at H; exact H
  clear H
  have H := H1
  clear H1
  replace H := Option.bind_eq_some_iff.mp H
  obtain ⟨t302, A130, H⟩ := H
  replace H : (if t302 = t291 then (if t297 = t299 then ((tithelaw22_num.f t298).bind fun t303 => (if t303 = t300 then ((tithelaw22_same.f k t280 l0).bind fun t304 => (if t304 = true then ((tithelaw22_works.f k).bind fun t305 => (some t305)) else (none))) else (none))) else (none)) else (none)) = some r := H
  have A13 := Aside0.mk A130
  clear A130
  by_cases c14 : t302 = t291
  ·rw [if_pos c14] at H
   have c14b0 : (t302 == t291) = true := beq_iff_eq.mpr c14
   have c14b1 : (t302 != t291) = false := bne_eq_false_iff_eq.mpr c14
   clear c14
   by_cases c15 : t297 = t299
   ·rw [if_pos c15] at H
    have c15b0 : (t297 == t299) = true := beq_iff_eq.mpr c15
    have c15b1 : (t297 != t299) = false := bne_eq_false_iff_eq.mpr c15
    clear c15
    replace H := Option.bind_eq_some_iff.mp H
    obtain ⟨t303, A160, H⟩ := H
    replace H : (if t303 = t300 then ((tithelaw22_same.f k t280 l0).bind fun t304 => (if t304 = true then ((tithelaw22_works.f k).bind fun t305 => (some t305)) else (none))) else (none)) = some r := H
    have A16 := Aside0.mk A160
    clear A160
    by_cases c17 : t303 = t300
    ·rw [if_pos c17] at H
     have c17b0 : (t303 == t300) = true := beq_iff_eq.mpr c17
     have c17b1 : (t303 != t300) = false := bne_eq_false_iff_eq.mpr c17
     clear c17
     replace H := Option.bind_eq_some_iff.mp H
     obtain ⟨t304, A180, H⟩ := H
     replace H : (if t304 = true then ((tithelaw22_works.f k).bind fun t305 => (some t305)) else (none)) = some r := H
     have A18 := Aside0.mk A180
     clear A180
     by_cases c19 : t304 = true
     ·subst c19
      have H1 : ((tithelaw22_works.f k).bind fun t305 => (some t305)) = some r := by rw [if_pos rfl] at H; exact H
      clear H
      have H := H1
      clear H1
      replace H := Option.bind_eq_some_iff.mp H
      obtain ⟨t305, A200, H⟩ := H
      replace H : (some t305) = some r := H
      have A20 := Aside0.mk A200
      clear A200
      obtain rfl := Option.some.inj H
      go_enter Try.func3, Try.ntmps3
      go_wp2_with (first | ((with_reducible refine gate_callee (f := 4) rfl ?_); refine goesL_ (some 17) rfl rfl Try.func4 (by kernel_rfl) rfl #[.slice A0 l0.length c0] rfl (by (try simp only [List.map_toArray, List.map_cons, List.map_nil]); first | done | rfl | (simp only [List.length_drop, List.length_take]; rfl)) ?_; (with_reducible refine (tithelaw22_twin.calls _ _ l0 t280 _ ?side1 ?side2 A4.out).mono ?_); (case side1 => repeat (first | exact HR0.out | (with_reducible refine Kd.C_alloc ?_ _) | (with_reducible refine Kd.C_drewN ?_ _) | (with_reducible refine Kd.C_drew ?_))); (case side2 => exact HC0.out); rintro e w21 ⟨v281, rfl, ho0, hb⟩; refine ⟨_, rfl, ?_⟩; have n0_ := Aside0.mk (Kd.R_lower ho0 (below_size (by repeat (first | (with_reducible first | exact HB.out | apply below_alloc | apply pw_below_drewN | apply below_drew1) | exact HB.out)))); have n1_ := Aside0.mk (below_step (by repeat (first | (with_reducible first | exact HB.out | apply below_alloc | apply pw_below_drewN | apply below_drew1) | exact HB.out)) hb); clear HB; have HO282 := n0_; have HB := n1_; clear n0_ n1_; (try clear hb); (try clear hb2); (try clear hk); (try clear hi); (try clear ho0)) | ((with_reducible refine gate_callee (f := 6) rfl ?_); refine goesL_ (some 21) rfl rfl Try.func6 (by kernel_rfl) rfl #[.slice A2 l2.length c2] rfl (by (try simp only [List.map_toArray, List.map_cons, List.map_nil]); first | done | rfl | (simp only [List.length_drop, List.length_take]; rfl)) ?_; (with_reducible refine (tithelaw22_row.calls _ _ l2 t283 _ ?side1 ?side2 A5.out).mono ?_); (case side1 => repeat (first | exact (Kd.C_below HR2.out HB.out) | (with_reducible refine Kd.C_alloc ?_ _) | (with_reducible refine Kd.C_drewN ?_ _) | (with_reducible refine Kd.C_drew ?_))); (case side2 => exact HC2.out); rintro e w22 ⟨v284, rfl, ho0, hb⟩; refine ⟨_, rfl, ?_⟩; have n0_ := Aside0.mk (Kd.R_below (by (with_reducible repeat (first | apply Kd.R_alloc | apply Kd.R_drewN | apply Kd.R_drew)); exact HO282.out) hb); have n1_ := Aside0.mk (Kd.R_lower ho0 (below_size (by repeat (first | (with_reducible first | exact HB.out | apply below_alloc | apply pw_below_drewN | apply below_drew1) | exact HB.out)))); have n2_ := Aside0.mk (below_step (by repeat (first | (with_reducible first | exact HB.out | apply below_alloc | apply pw_below_drewN | apply below_drew1) | exact HB.out)) hb); clear HO282; clear HB; have HO282 := n0_; have HO285 := n1_; have HB := n2_; clear n0_ n1_ n2_; (try clear hb); (try clear hb2); (try clear hk); (try clear hi); (try clear ho0); obtain ⟨Ao23, co23, eo23⟩ := Kd.R_slice HO282.out; subst eo23; obtain ⟨Ao24, co24, eo24⟩ := Kd.R_slice HO285.out; subst eo24) | ((with_reducible refine gate_callee (f := 5) rfl ?_); refine goesL_ (some 22) rfl rfl Try.func5 (by kernel_rfl) rfl #[.slice Ao23 t280.length co23, .slice Ao24 t283.length co24] rfl (by (try simp only [List.map_toArray, List.map_cons, List.map_nil]); first | done | rfl | (simp only [List.length_drop, List.length_take]; rfl)) ?_; (with_reducible refine (response_Audsley.calls k _ _ t280 _ _ t283 t286 t287 _ ?side1 ?side2 ?side3 ?side4 A6.out).mono ?_); (case side1 => repeat (first | exact (Kd.R_reads' HO282.out).2.2 | (with_reducible refine Kd.C_alloc ?_ _) | (with_reducible refine Kd.C_drewN ?_ _) | (with_reducible refine Kd.C_drew ?_))); (case side2 => exact (Kd.R_reads' HO282.out).2.1); (case side3 => repeat (first | exact (Kd.R_reads' HO285.out).2.2 | (with_reducible refine Kd.C_alloc ?_ _) | (with_reducible refine Kd.C_drewN ?_ _) | (with_reducible refine Kd.C_drew ?_))); (case side4 => exact (Kd.R_reads' HO285.out).2.1); rintro e w25 ⟨v288, rfl, ho0, hb⟩; refine ⟨_, rfl, ?_⟩; have n0_ := Aside0.mk (Kd.R_elder' (by (with_reducible repeat (first | apply Kd.R_alloc | apply Kd.R_drewN | apply Kd.R_drew)); exact HO282.out) (Kd.R_base ho0) hb); have n1_ := Aside0.mk (Kd.R_below (by (with_reducible repeat (first | apply Kd.R_alloc | apply Kd.R_drewN | apply Kd.R_drew)); exact HO285.out) hb); have n2_ := Aside0.mk (Kd.R_lower (Kd.R_new' ho0 (Kd.R_lt (by (with_reducible repeat (first | apply Kd.R_alloc | apply Kd.R_drewN | apply Kd.R_drew)); exact HO282.out))) (below_size (by repeat (first | (with_reducible first | exact HB.out | apply below_alloc | apply pw_below_drewN | apply below_drew1) | exact HB.out)))); have n3_ := Aside0.mk (below_step (by repeat (first | (with_reducible first | exact HB.out | apply below_alloc | apply pw_below_drewN | apply below_drew1) | exact HB.out)) hb); clear HO282; clear HO285; clear HB; have HO282 := n0_; have HO285 := n1_; have HO289 := n2_; have HB := n3_; clear n0_ n1_ n2_ n3_; (try clear hb); (try clear hb2); (try clear hk); (try clear hi); (try clear ho0); (try simp only [errW_none, errW_some])) | ((with_reducible refine gate_callee (f := 7) rfl ?_); refine goesL_ (some 28) rfl rfl Try.func7 (by kernel_rfl) rfl #[.slice A0 l0.length c0, .slice A2 l2.length c2] rfl (by (try simp only [List.map_toArray, List.map_cons, List.map_nil]); first | done | rfl | (simp only [List.length_drop, List.length_take]; rfl)) ?_; (with_reducible refine (titheref22_Audsley.calls k _ _ l0 _ _ l2 t290 t291 _ ?side1 ?side2 ?side3 ?side4 A7.out).mono ?_); (case side1 => repeat (first | exact (Kd.C_below HR0.out HB.out) | (with_reducible refine Kd.C_alloc ?_ _) | (with_reducible refine Kd.C_drewN ?_ _) | (with_reducible refine Kd.C_drew ?_))); (case side2 => exact HC0.out); (case side3 => repeat (first | exact (Kd.C_below HR2.out HB.out) | (with_reducible refine Kd.C_alloc ?_ _) | (with_reducible refine Kd.C_drewN ?_ _) | (with_reducible refine Kd.C_drew ?_))); (case side4 => exact HC2.out); rintro e w26 ⟨v292, rfl, ho0, hb⟩; refine ⟨_, rfl, ?_⟩; have n0_ := Aside0.mk (Kd.R_elder' (by (with_reducible repeat (first | apply Kd.R_alloc | apply Kd.R_drewN | apply Kd.R_drew)); exact HO282.out) (Kd.R_base ho0) hb); have n1_ := Aside0.mk (Kd.R_below (by (with_reducible repeat (first | apply Kd.R_alloc | apply Kd.R_drewN | apply Kd.R_drew)); exact HO285.out) hb); have n2_ := Aside0.mk (Kd.R_elder' (by (with_reducible repeat (first | apply Kd.R_alloc | apply Kd.R_drewN | apply Kd.R_drew)); exact HO289.out) (Kd.R_base ho0) hb); have n3_ := Aside0.mk (Kd.R_lower (Kd.R_new' (Kd.R_new' ho0 (Kd.R_lt (by (with_reducible repeat (first | apply Kd.R_alloc | apply Kd.R_drewN | apply Kd.R_drew)); exact HO282.out))) (Kd.R_lt (by (with_reducible repeat (first | apply Kd.R_alloc | apply Kd.R_drewN | apply Kd.R_drew)); exact HO289.out))) (below_size (by repeat (first | (with_reducible first | exact HB.out | apply below_alloc | apply pw_below_drewN | apply below_drew1) | exact HB.out)))); have n4_ := Aside0.mk (below_step (by repeat (first | (with_reducible first | exact HB.out | apply below_alloc | apply pw_below_drewN | apply below_drew1) | exact HB.out)) hb); clear HO282; clear HO285; clear HO289; clear HB; have HO282 := n0_; have HO285 := n1_; have HO289 := n2_; have HO293 := n3_; have HB := n4_; clear n0_ n1_ n2_ n3_ n4_; (try clear hb); (try clear hb2); (try clear hk); (try clear hi); (try clear ho0)) | ((with_reducible refine gate_callee (f := 6) rfl ?_); refine goesL_ (some 35) rfl rfl Try.func6 (by kernel_rfl) rfl #[.slice A2 l2.length c2] rfl (by (try simp only [List.map_toArray, List.map_cons, List.map_nil]); first | done | rfl | (simp only [List.length_drop, List.length_take]; rfl)) ?_; (with_reducible refine (tithelaw22_row.calls _ _ l2 t294 _ ?side1 ?side2 A8.out).mono ?_); (case side1 => repeat (first | exact (Kd.C_below HR2.out HB.out) | (with_reducible refine Kd.C_alloc ?_ _) | (with_reducible refine Kd.C_drewN ?_ _) | (with_reducible refine Kd.C_drew ?_))); (case side2 => exact HC2.out); rintro e w27 ⟨v295, rfl, ho0, hb⟩; refine ⟨_, rfl, ?_⟩; have n0_ := Aside0.mk (Kd.R_below (by (with_reducible repeat (first | apply Kd.R_alloc | apply Kd.R_drewN | apply Kd.R_drew)); exact HO282.out) hb); have n1_ := Aside0.mk (Kd.R_elder' (by (with_reducible repeat (first | apply Kd.R_alloc | apply Kd.R_drewN | apply Kd.R_drew)); exact HO285.out) (Kd.R_base ho0) hb); have n2_ := Aside0.mk (Kd.R_below (by (with_reducible repeat (first | apply Kd.R_alloc | apply Kd.R_drewN | apply Kd.R_drew)); exact HO289.out) hb); have n3_ := Aside0.mk (Kd.R_below (by (with_reducible repeat (first | apply Kd.R_alloc | apply Kd.R_drewN | apply Kd.R_drew)); exact HO293.out) hb); have n4_ := Aside0.mk (Kd.R_lower (Kd.R_new' ho0 (Kd.R_lt (by (with_reducible repeat (first | apply Kd.R_alloc | apply Kd.R_drewN | apply Kd.R_drew)); exact HO285.out))) (below_size (by repeat (first | (with_reducible first | exact HB.out | apply below_alloc | apply pw_below_drewN | apply below_drew1) | exact HB.out)))); have n5_ := Aside0.mk (below_step (by repeat (first | (with_reducible first | exact HB.out | apply below_alloc | apply pw_below_drewN | apply below_drew1) | exact HB.out)) hb); clear HO282; clear HO285; clear HO289; clear HO293; clear HB; have HO282 := n0_; have HO285 := n1_; have HO289 := n2_; have HO293 := n3_; have HO296 := n4_; have HB := n5_; clear n0_ n1_ n2_ n3_ n4_ n5_; (try clear hb); (try clear hb2); (try clear hk); (try clear hi); (try clear ho0); obtain ⟨Ao28, co28, eo28⟩ := Kd.R_slice HO296.out; subst eo28) | ((with_reducible refine gate_callee (f := 8) rfl ?_); refine goesL_ (some 36) rfl rfl Try.func8 (by kernel_rfl) rfl #[.slice Ao23 t280.length co23, .int .i64 a1, .slice Ao28 t294.length co28] rfl (by (try simp only [List.map_toArray, List.map_cons, List.map_nil]); first | done | rfl | (simp only [List.length_drop, List.length_take]; rfl)) ?_; (with_reducible refine (response_Most.calls k _ _ t280 a1 _ _ t294 t297 t298 _ ?side1 ?side2 ?side3 ?side4 A9.out).mono ?_); (case side1 => repeat (first | exact (Kd.R_reads' HO282.out).2.2 | (with_reducible refine Kd.C_alloc ?_ _) | (with_reducible refine Kd.C_drewN ?_ _) | (with_reducible refine Kd.C_drew ?_))); (case side2 => exact (Kd.R_reads' HO282.out).2.1); (case side3 => repeat (first | exact (Kd.R_reads' HO296.out).2.2 | (with_reducible refine Kd.C_alloc ?_ _) | (with_reducible refine Kd.C_drewN ?_ _) | (with_reducible refine Kd.C_drew ?_))); (case side4 => exact (Kd.R_reads' HO296.out).2.1); rintro e w29 ⟨rfl, hb⟩; refine ⟨_, rfl, ?_⟩; have n0_ := Aside0.mk (Kd.R_below (by (with_reducible repeat (first | apply Kd.R_alloc | apply Kd.R_drewN | apply Kd.R_drew)); exact HO282.out) hb); have n1_ := Aside0.mk (Kd.R_below (by (with_reducible repeat (first | apply Kd.R_alloc | apply Kd.R_drewN | apply Kd.R_drew)); exact HO285.out) hb); have n2_ := Aside0.mk (Kd.R_below (by (with_reducible repeat (first | apply Kd.R_alloc | apply Kd.R_drewN | apply Kd.R_drew)); exact HO289.out) hb); have n3_ := Aside0.mk (Kd.R_below (by (with_reducible repeat (first | apply Kd.R_alloc | apply Kd.R_drewN | apply Kd.R_drew)); exact HO293.out) hb); have n4_ := Aside0.mk (Kd.R_below (by (with_reducible repeat (first | apply Kd.R_alloc | apply Kd.R_drewN | apply Kd.R_drew)); exact HO296.out) hb); have n5_ := Aside0.mk (below_step (by repeat (first | (with_reducible first | exact HB.out | apply below_alloc | apply pw_below_drewN | apply below_drew1) | exact HB.out)) hb); clear HO282; clear HO285; clear HO289; clear HO293; clear HO296; clear HB; have HO282 := n0_; have HO285 := n1_; have HO289 := n2_; have HO293 := n3_; have HO296 := n4_; have HB := n5_; clear n0_ n1_ n2_ n3_ n4_ n5_; (try clear hb); (try clear hb2); (try clear hk); (try clear hi); (try simp only [errW_none, errW_some])) | ((with_reducible refine gate_callee (f := 9) rfl ?_); refine goesL_ (some 43) rfl rfl Try.func9 (by kernel_rfl) rfl #[.slice A0 l0.length c0, .int .i64 a1, .slice A2 l2.length c2] rfl (by (try simp only [List.map_toArray, List.map_cons, List.map_nil]); first | done | rfl | (simp only [List.length_drop, List.length_take]; rfl)) ?_; (with_reducible refine (titheref22_Most.calls k _ _ l0 a1 _ _ l2 t299 t300 _ ?side1 ?side2 ?side3 ?side4 A10.out).mono ?_); (case side1 => repeat (first | exact (Kd.C_below HR0.out HB.out) | (with_reducible refine Kd.C_alloc ?_ _) | (with_reducible refine Kd.C_drewN ?_ _) | (with_reducible refine Kd.C_drew ?_))); (case side2 => exact HC0.out); (case side3 => repeat (first | exact (Kd.C_below HR2.out HB.out) | (with_reducible refine Kd.C_alloc ?_ _) | (with_reducible refine Kd.C_drewN ?_ _) | (with_reducible refine Kd.C_drew ?_))); (case side4 => exact HC2.out); rintro e w30 ⟨rfl, hb⟩; refine ⟨_, rfl, ?_⟩; have n0_ := Aside0.mk (Kd.R_below (by (with_reducible repeat (first | apply Kd.R_alloc | apply Kd.R_drewN | apply Kd.R_drew)); exact HO282.out) hb); have n1_ := Aside0.mk (Kd.R_below (by (with_reducible repeat (first | apply Kd.R_alloc | apply Kd.R_drewN | apply Kd.R_drew)); exact HO285.out) hb); have n2_ := Aside0.mk (Kd.R_below (by (with_reducible repeat (first | apply Kd.R_alloc | apply Kd.R_drewN | apply Kd.R_drew)); exact HO289.out) hb); have n3_ := Aside0.mk (Kd.R_below (by (with_reducible repeat (first | apply Kd.R_alloc | apply Kd.R_drewN | apply Kd.R_drew)); exact HO293.out) hb); have n4_ := Aside0.mk (Kd.R_below (by (with_reducible repeat (first | apply Kd.R_alloc | apply Kd.R_drewN | apply Kd.R_drew)); exact HO296.out) hb); have n5_ := Aside0.mk (below_step (by repeat (first | (with_reducible first | exact HB.out | apply below_alloc | apply pw_below_drewN | apply below_drew1) | exact HB.out)) hb); clear HO282; clear HO285; clear HO289; clear HO293; clear HO296; clear HB; have HO282 := n0_; have HO285 := n1_; have HO289 := n2_; have HO293 := n3_; have HO296 := n4_; have HB := n5_; clear n0_ n1_ n2_ n3_ n4_ n5_; (try clear hb); (try clear hb2); (try clear hk); (try clear hi); obtain ⟨Ao31, co31, eo31⟩ := Kd.R_slice HO289.out; subst eo31; obtain ⟨Ao32, co32, eo32⟩ := Kd.R_slice HO293.out; subst eo32) | ((with_reducible refine gate_callee (f := 10) rfl ?_); refine goesL_ (some 48) rfl rfl Try.func10 (by kernel_rfl) rfl #[.slice Ao31 t286.length co31, .slice Ao32 t290.length co32] rfl (by (try simp only [List.map_toArray, List.map_cons, List.map_nil]); first | done | rfl | (simp only [List.length_drop, List.length_take]; rfl)) ?_; (with_reducible refine (tithelaw22_same.calls k _ _ t286 _ _ t290 true _ ?side1 ?side2 ?side3 ?side4 A11.out).mono ?_); (case side1 => repeat (first | exact (Kd.R_reads' HO289.out).2.2 | (with_reducible refine Kd.C_alloc ?_ _) | (with_reducible refine Kd.C_drewN ?_ _) | (with_reducible refine Kd.C_drew ?_))); (case side2 => exact (Kd.R_reads' HO289.out).2.1); (case side3 => repeat (first | exact (Kd.R_reads' HO293.out).2.2 | (with_reducible refine Kd.C_alloc ?_ _) | (with_reducible refine Kd.C_drewN ?_ _) | (with_reducible refine Kd.C_drew ?_))); (case side4 => exact (Kd.R_reads' HO293.out).2.1); rintro e w' ⟨rfl, ⟨nd, rfl⟩⟩; refine ⟨_, rfl, ?_⟩; have CA13 := fun W => tithelaw22_num.calls t287 t302 W A13.out; try simp only [errW_none, errW_some] at CA13) | (go_at_call 11; (with_reducible refine (CA13 _).mono ?_); rintro e w' ⟨rfl, ⟨nd, rfl⟩⟩; have CA16 := fun W => tithelaw22_num.calls t298 t303 W A16.out; try simp only [errW_none, errW_some] at CA16) | (go_at_call 11; (with_reducible refine (CA16 _).mono ?_); rintro e w' ⟨rfl, ⟨nd, rfl⟩⟩) | (go_at_call 10; (with_reducible refine (tithelaw22_same.calls k _ _ t280 _ _ l0 true _ ?side1 ?side2 ?side3 ?side4 A18.out).mono ?_); (case side1 => repeat (first | exact (Kd.R_reads' HO282.out).2.2 | (with_reducible refine Kd.C_alloc ?_ _) | (with_reducible refine Kd.C_drewN ?_ _) | (with_reducible refine Kd.C_drew ?_))); (case side2 => exact (Kd.R_reads' HO282.out).2.1); (case side3 => repeat (first | exact (Kd.C_below HR0.out (by repeat (first | (with_reducible first | exact HB.out | apply below_alloc | apply pw_below_drewN | apply below_drew1) | exact HB.out))) | (with_reducible refine Kd.C_alloc ?_ _) | (with_reducible refine Kd.C_drewN ?_ _) | (with_reducible refine Kd.C_drew ?_))); (case side4 => exact HC0.out); rintro e w' ⟨rfl, ⟨nd, rfl⟩⟩) | (go_at_call 12; (with_reducible refine (tithelaw22_works.calls k  t305 _ A20.out).mono ?_); rintro e w33 ⟨rfl, hb⟩; have n0_ := Aside0.mk (Kd.R_below (by (with_reducible repeat (first | apply Kd.R_alloc | apply Kd.R_drewN | apply Kd.R_drew)); exact HO282.out) hb); have n1_ := Aside0.mk (Kd.R_below (by (with_reducible repeat (first | apply Kd.R_alloc | apply Kd.R_drewN | apply Kd.R_drew)); exact HO285.out) hb); have n2_ := Aside0.mk (Kd.R_below (by (with_reducible repeat (first | apply Kd.R_alloc | apply Kd.R_drewN | apply Kd.R_drew)); exact HO289.out) hb); have n3_ := Aside0.mk (Kd.R_below (by (with_reducible repeat (first | apply Kd.R_alloc | apply Kd.R_drewN | apply Kd.R_drew)); exact HO293.out) hb); have n4_ := Aside0.mk (Kd.R_below (by (with_reducible repeat (first | apply Kd.R_alloc | apply Kd.R_drewN | apply Kd.R_drew)); exact HO296.out) hb); have n5_ := Aside0.mk (below_step (by repeat (first | (with_reducible first | exact HB.out | apply below_alloc | apply pw_below_drewN | apply below_drew1) | exact HB.out)) hb); clear HO282; clear HO285; clear HO289; clear HO293; clear HO296; clear HB; have HO282 := n0_; have HO285 := n1_; have HO289 := n2_; have HO293 := n3_; have HO296 := n4_; have HB := n5_; clear n0_ n1_ n2_ n3_ n4_ n5_; (try clear hb); (try clear hb2); (try clear hk); (try clear hi)))
      go_ret
      exact ⟨by first | rfl | (simp [errW_none, errW_some] <;> rfl) | (simp [*, errW_none, errW_some] <;> rfl), by repeat (first | (with_reducible first | exact HB.out | apply below_alloc | apply pw_below_drewN | apply below_drew1) | exact HB.out)⟩
     ·rw [if_neg c19] at H; exact absurd H (by simp)
    ·rw [if_neg c17] at H; exact absurd H (by simp)
   ·rw [if_neg c15] at H; exact absurd H (by simp)
  ·rw [if_neg c14] at H; exact absurd H (by simp)
 ·rw [if_neg c12] at H; exact absurd H (by simp)

end Go.Proofs.Ytadkgcjmacccnaa.C
