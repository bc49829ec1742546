/- Proved here: what the machine does at calls of the functions that the laws reach is what plain functions of the same names say, or a row of the given statement out of that. No conditions. Written by a program of this session over the printer of the kit. -/
import Derived.Test.YtffckkjaeekanaaBx0
import Derived.Test.YtffckkjaeekanaaBx14
namespace Go.Proofs.Ytffckkjaeekanaa.B
open Go.RowKit Go.Proofs.YtffckkjaeekanaaW.PrintWords Go.Proofs.YtffckkjaeekanaaW.PrintLast Go.Proofs.YtffckkjaeekanaaW.PrintMore
attribute [local go_sem] max2_int min2_int max_two min_two max_three min_three max_four min_four   -- for this text's walks alone
set_option linter.unusedVariables false
set_option linter.unusedSimpArgs false

/-! ### titheref22_Fits: function 13 -/
def titheref22_Fits.f (k : Nat) (l0 : List (S39)) (l1 : List (S48)) : Option (Int) := (titheref22_All.f k l0 l1).bind fun bt268 => (some bt268.2)
theorem titheref22_Fits.mono : ∀ a0 a1 k, LeO (titheref22_Fits.f k a0 a1) (titheref22_Fits.f (k + 1) a0 a1) := by
 intro a0 a1 k
 unfold titheref22_Fits.f
 repeat' first
   | (with_reducible exact titheref22_All.mono _ _ _)
   | (with_reducible exact LeO.refl _)
   | (with_reducible exact LeO.none _)
   | (with_reducible refine LeO.ite ?_ ?_)
   | (with_reducible refine LeO.bind ?_ (fun _ => ?_))
   | exact titheref22_All.mono _ _ _
   | exact LeO.none _
   | refine LeO.ite ?_ ?_
   | refine LeO.bind ?_ (fun _ => ?_)
set_option maxHeartbeats 8000000 in
set_option maxRecDepth 100000 in
theorem titheref22_Fits.calls (k : Nat) (A0 : Option Addr) (c0 : Nat) (l0 : List (S39)) (A1 : Option Addr) (c1 : Nat) (l1 : List (S48)) (r : Int) (w : World) (hr0 : Kd.C k39 w A0 l0.length l0) (hc0 : l0.length ≤ c0) (hr1 : Kd.C k48 w A1 l1.length l1) (hc1 : l1.length ≤ c1) (h : titheref22_Fits.f k l0 l1 = some r) :
  Calls Try.prog 13 #[.slice A0 l0.length c0, .slice A1 l1.length c1] w fun e w' => e = .returned (.int .i64 r) ∧ Below w.heap.size w w' := by
 have HR0 := Aside0.mk hr0
 have HC0 := Aside0.mk hc0
 clear hr0 hc0
 have HR1 := Aside0.mk hr1
 have HC1 := Aside0.mk hc1
 clear hr1 hc1
 have HB := Aside0.mk (Below.refl w.heap.size w)
 have H : ((titheref22_All.f k l0 l1).bind fun bt268 => (some bt268.2)) = some r := h
 clear h
 replace H := Option.bind_eq_some_iff.mp H
 obtain ⟨⟨t268, t269⟩, A30, H⟩ := H
 replace H : (some t269) = some r := H
 have A3 := Aside0.mk A30
 clear A30
 obtain rfl := Option.some.inj H
 go_enter Try.func13, Try.ntmps13
 go_wp2_with (first | ((with_reducible refine gate_callee (f := 22) rfl ?_); refine goesL_ (some 10) rfl rfl Try.func22 (by kernel_rfl) rfl #[.slice A0 l0.length c0, .slice A1 l1.length c1] rfl (by (try simp only [List.map_toArray, List.map_cons, List.map_nil]); first | done | rfl | (simp only [List.length_drop, List.length_take]; rfl)) ?_; (with_reducible refine (titheref22_All.calls k _ _ l0 _ _ l1 t268 t269 _ ?side1 ?side2 ?side3 ?side4 A3.out).mono ?_); (case side1 => repeat (first | exact HR0.out | (with_reducible refine Kd.C_alloc ?_ _) | (with_reducible refine Kd.C_drewN ?_ _) | (with_reducible refine Kd.C_drew ?_))); (case side2 => exact HC0.out); (case side3 => repeat (first | exact HR1.out | (with_reducible refine Kd.C_alloc ?_ _) | (with_reducible refine Kd.C_drewN ?_ _) | (with_reducible refine Kd.C_drew ?_))); (case side4 => exact HC1.out); rintro e w4 ⟨v270, rfl, ho0, hb⟩; refine ⟨_, rfl, ?_⟩; have n0_ := Aside0.mk (Kd.R_lower ho0 (below_size (by repeat (first | (with_reducible first | exact HB.out | apply below_alloc | apply pw_below_drewN | apply below_drew1) | exact HB.out)))); have n1_ := Aside0.mk (below_step (by repeat (first | (with_reducible first | exact HB.out | apply below_alloc | apply pw_below_drewN | apply below_drew1) | exact HB.out)) hb); clear HB; have HO271 := n0_; have HB := n1_; clear n0_ n1_; (try clear hb); (try clear hb2); (try clear hk); (try clear hi); (try clear ho0)))
 go_ret
 exact ⟨by first | rfl | (simp [errW_none, errW_some] <;> rfl) | (simp [*, errW_none, errW_some] <;> rfl), by repeat (first | (with_reducible first | exact HB.out | apply below_alloc | apply pw_below_drewN | apply below_drew1) | exact HB.out)⟩

/-! ### tithelaw22_permuted: function 10 -/
mutual
def tithelaw22_permuted.l0 : Nat → List (S39) → List Bool → Int → List (S48) → Int → Option (Bool × (List (S39)) × List Bool)
 | 0, _, _, _, _, _ => none
 | k + 1, x0, x1, x2, x3, x9 => if x9 < (x0.length : Int) then (if 0 ≤ x9 then (if x9 < (x1.length : Int) then (if rdOf false x1 x9 = true then (tithelaw22_permuted.l0 k x0 x1 x2 x3 (wrap64 (x9 + 1))) else ((tithelaw22_permuted.f k (x0.set (x9 : Int).toNat (⟨(rd_T39 x0 x9).f0, (rd_T39 x0 x9).f1, (rd_T39 x0 x9).f2, x2⟩ : S39)) (x1.set (x9 : Int).toNat true) (wrap64 (x2 + 1)) x3).bind fun bt277 => ((some (bt277.2.1.set (x9 : Int).toNat (⟨(rd_T39 bt277.2.1 x9).f0, (rd_T39 bt277.2.1 x9).f1, (rd_T39 bt277.2.1 x9).f2, (rd_T39 x0 x9).f3⟩ : S39) : List (S39))).bind fun y280 => ((some (bt277.2.2.set (x9 : Int).toNat false : List Bool)).bind fun y281 => (if bt277.1 = true then (some (true, y280, y281)) else (tithelaw22_permuted.l0 k y280 y281 x2 x3 (wrap64 (x9 + 1)))))))) else (none)) else (none)) else (some (false, x0, x1))
def tithelaw22_permuted.f : Nat → List (S39) → List Bool → Int → List (S48) → Option (Bool × (List (S39)) × List Bool)
 | 0, _, _, _, _ => none
 | k + 1, l0, l1, a2, l3 => if a2 = (l0.length : Int) then ((titheref22_Fits.f k l0 l3).bind fun t272 => (some ((t272 == 0), l0, l1))) else (tithelaw22_permuted.l0 k l0 l1 a2 l3 0)
end
theorem tithelaw22_permuted.mono_l : ∀ k, (∀ y0 y1 y2 y3, LeO (tithelaw22_permuted.f k y0 y1 y2 y3) (tithelaw22_permuted.f (k + 1) y0 y1 y2 y3)) ∧ (∀ y0 y1 y2 y3 y4, LeO (tithelaw22_permuted.l0 k y0 y1 y2 y3 y4) (tithelaw22_permuted.l0 (k + 1) y0 y1 y2 y3 y4))
 | 0 => ⟨fun _ _ _ _ r h => by simp [tithelaw22_permuted.f] at h, fun _ _ _ _ _ r h => by simp [tithelaw22_permuted.l0] at h⟩
 | k + 1 => by
  obtain ⟨ih0, ih1⟩ := tithelaw22_permuted.mono_l k
  refine ⟨?_, ?_⟩
  ·intro y0 y1 y2 y3
   unfold tithelaw22_permuted.f
   repeat' first
   | (with_reducible exact ih0 _ _ _ _)
   | (with_reducible exact ih1 _ _ _ _ _)
   | (with_reducible exact titheref22_Fits.mono _ _ _)
   | (with_reducible exact LeO.refl _)
   | (with_reducible exact LeO.none _)
   | (with_reducible refine LeO.ite ?_ ?_)
   | (with_reducible refine LeO.bind ?_ (fun _ => ?_))
   | exact ih0 _ _ _ _
   | exact ih1 _ _ _ _ _
   | exact titheref22_Fits.mono _ _ _
   | exact LeO.none _
   | refine LeO.ite ?_ ?_
   | refine LeO.bind ?_ (fun _ => ?_)
  ·intro y0 y1 y2 y3 y4
   unfold tithelaw22_permuted.l0
   repeat' first
   | (with_reducible exact ih0 _ _ _ _)
   | (with_reducible exact ih1 _ _ _ _ _)
   | (with_reducible exact titheref22_Fits.mono _ _ _)
   | (with_reducible exact LeO.refl _)
   | (with_reducible exact LeO.none _)
   | (with_reducible refine LeO.ite ?_ ?_)
   | (with_reducible refine LeO.bind ?_ (fun _ => ?_))
   | exact ih0 _ _ _ _
   | exact ih1 _ _ _ _ _
   | exact titheref22_Fits.mono _ _ _
   | exact LeO.none _
   | refine LeO.ite ?_ ?_
   | refine LeO.bind ?_ (fun _ => ?_)
theorem tithelaw22_permuted.mono : ∀ a0 a1 a2 a3 k, LeO (tithelaw22_permuted.f k a0 a1 a2 a3) (tithelaw22_permuted.f (k + 1) a0 a1 a2 a3) := by
 intro a0 a1 a2 a3 k
 obtain ⟨ih0, ih1⟩ := tithelaw22_permuted.mono_l k
 exact ih0 a0 a1 a2 a3
set_option maxHeartbeats 8000000 in
set_option maxRecDepth 100000 in
theorem tithelaw22_permuted.calls (k : Nat) : ∀ (P0_ : Nat → Prop) (u9000_ : Value) (l0 : List (S39)) (P1_ : Nat → Prop) (u9001_ : Value) (l1 : List Bool) (a2 : Int) (A3 : Option Addr) (c3 : Nat) (l3 : List (S48)) (r1 : Bool) (r2 : List (S39)) (r3 : List Bool) (w0 w : World) (hB : Below w0.heap.size w0 w) (ho0 : Kd.R k39 39 w w0.heap.size P0_ u9000_ l0) (ho1 : Kd.R Kd.bool 4 w w0.heap.size P1_ u9001_ l1) (hr3 : ∀ W_, Kept w W_ (fun k_ => P0_ k_ ∨ P1_ k_) → Kd.C k48 W_ A3 l3.length l3) (hc3 : l3.length ≤ c3) (h : tithelaw22_permuted.f k l0 l1 a2 l3 = some (r1, r2, r3)),
  Calls Try.prog 10 #[u9000_, u9001_, .int .i64 a2, .slice A3 l3.length c3] w fun e w' => e = .returned (.bool r1) ∧ Kd.R k39 39 w' w0.heap.size (fun k_ => ((P0_ k_ ∨ P1_ k_) ∨ w.heap.size ≤ k_)) u9000_ r2 ∧ Kd.R Kd.bool 4 w' w0.heap.size (fun k_ => ((P0_ k_ ∨ P1_ k_) ∨ w.heap.size ≤ k_)) u9001_ r3 ∧ Below w0.heap.size w0 w' ∧ Kept w w' (fun k_ => P0_ k_ ∨ P1_ k_) := by
 induction k using Nat.strongRecOn with
 | _ k ih =>
 intro P0_ u9000_ l0 P1_ u9001_ l1 a2 A3 c3 l3 r1 r2 r3 w0 w hB ho0 ho1 hr3 hc3 h
 cases k with
 | zero => exact absurd h (by simp [tithelaw22_permuted.f])
 | succ k =>
 simp only [tithelaw22_permuted.f] at h
 have HO0 := Aside0.mk (show Kd.R k39 39 w w0.heap.size (fun k_ => ((P0_ k_ ∨ P1_ k_) ∨ w.heap.size ≤ k_)) u9000_ l0 from Kd.R_mono ho0 (fun k_ hk => (.inl (.inl hk))))
 have HO1 := Aside0.mk (show Kd.R Kd.bool 4 w w0.heap.size (fun k_ => ((P0_ k_ ∨ P1_ k_) ∨ w.heap.size ≤ k_)) u9001_ l1 from Kd.R_mono ho1 (fun k_ hk => (.inl (.inr hk))))
 have HR3 := Aside0.mk hr3
 have HC3 := Aside0.mk hc3
 clear hr3 hc3
 have HK := Aside0.mk (Kept.refl w (fun k_ => P0_ k_ ∨ P1_ k_))
 have HW0 := Aside0.mk hB.size
 have HB := Aside0.mk hB
 clear hB
 have H : (if a2 = (l0.length : Int) then ((titheref22_Fits.f k l0 l3).bind fun t272 => (some ((t272 == 0), l0, l1))) else (tithelaw22_permuted.l0 k l0 l1 a2 l3 0)) = some (r1, r2, r3) := h
 clear h
 by_cases c5 : a2 = (l0.length : Int)
 ·rw [if_pos c5] at H
  have c5b0 : (a2 == (l0.length : Int)) = true := beq_iff_eq.mpr c5
  have c5b1 : (a2 != (l0.length : Int)) = false := bne_eq_false_iff_eq.mpr c5
  clear c5
  replace H := Option.bind_eq_some_iff.mp H
  obtain ⟨t272, A60, H⟩ := H
  replace H : (some ((t272 == 0), l0, l1)) = some (r1, r2, r3) := H
  have A6 := Aside0.mk A60
  clear A60
  simp only [Option.some.injEq, Prod.mk.injEq] at H
  obtain ⟨rfl, rfl, rfl⟩ := H
  obtain ⟨Ao7, co7, eo7⟩ := Kd.R_slice HO0.out
  subst eo7
  go_enter Try.func10, Try.ntmps10
  go_wp2_with (first | ((with_reducible refine gate_callee (f := 13) rfl ?_); refine goesL_ (some 18) rfl rfl Try.func13 (by kernel_rfl) rfl #[.slice Ao7 l0.length co7, .slice A3 l3.length c3] rfl (by (try simp only [List.map_toArray, List.map_cons, List.map_nil]); first | done | rfl | (simp only [List.length_drop, List.length_take]; rfl)) ?_; (with_reducible refine (titheref22_Fits.calls k _ _ l0 _ _ l3 t272 _ ?side1 ?side2 ?side3 ?side4 A6.out).mono ?_); (case side1 => repeat (first | exact (Kd.R_reads' HO0.out).2.2 | (with_reducible refine Kd.C_alloc ?_ _) | (with_reducible refine Kd.C_drewN ?_ _) | (with_reducible refine Kd.C_drew ?_))); (case side2 => exact (Kd.R_reads' HO0.out).2.1); (case side3 => exact Kd.C_kept_now HR3.out (by repeat (first | (with_reducible first | exact HK.out | apply Kept.alloc | apply Kept.drewN | apply Kept.drew) | exact HK.out))); (case side4 => exact HC3.out); rintro e w8 ⟨rfl, hb⟩; refine ⟨_, rfl, ?_⟩; have n0_ := Aside0.mk (Kd.R_below (by (with_reducible repeat (first | apply Kd.R_alloc | apply Kd.R_drewN | apply Kd.R_drew)); exact HO0.out) hb); have n1_ := Aside0.mk (Kd.R_below (by (with_reducible repeat (first | apply Kd.R_alloc | apply Kd.R_drewN | apply Kd.R_drew)); exact HO1.out) hb); have n2_ := Aside0.mk (Kept.below (S := (fun k_ => P0_ k_ ∨ P1_ k_)) (by repeat (first | (with_reducible first | exact HK.out | apply Kept.alloc | apply Kept.drewN | apply Kept.drew) | exact HK.out)) hb); have n3_ := Aside0.mk (below_step (by repeat (first | (with_reducible first | exact HB.out | apply below_alloc | apply pw_below_drewN | apply below_drew1) | exact HB.out)) hb); clear HO0; clear HO1; clear HK; clear HB; have HO0 := n0_; have HO1 := n1_; have HK := n2_; have HB := n3_; clear n0_ n1_ n2_ n3_; (try clear hb); (try clear hb2); (try clear hk); (try clear hi)))
  go_ret
  exact ⟨by first | rfl | (simp [errW_none, errW_some] <;> rfl) | (simp [*, errW_none, errW_some] <;> rfl), by (with_reducible repeat (first | apply Kd.R_alloc | apply Kd.R_drewN | apply Kd.R_drew)); exact HO0.out, by (with_reducible repeat (first | apply Kd.R_alloc | apply Kd.R_drewN | apply Kd.R_drew)); exact HO1.out, by repeat (first | (with_reducible first | exact HB.out | apply below_alloc | apply pw_below_drewN | apply below_drew1) | exact HB.out), by repeat (first | (with_reducible first | exact HK.out | apply Kept.alloc | apply Kept.drewN | apply Kept.drew) | exact HK.out)⟩
 ·rw [if_neg c5] at H
  have c5b0 : (a2 == (l0.length : Int)) = false := beq_eq_false_iff_ne.mpr c5
  have c5b1 : (a2 != (l0.length : Int)) = true := bne_iff_ne.mpr c5
  have H' := Aside0.mk H
  clear H
  obtain ⟨Ao9, co9, eo9⟩ := Kd.R_slice HO0.out
  subst eo9
  go_enter Try.func10, Try.ntmps10
  go_wp2
  go_loopg [9] k (fun kq v9 w' => ∃ (x0_1 : List (S39)) (x1_1 : List Bool) (x9_1 : Int), v9 = .int .i64 x9_1 ∧ Aside0 (tithelaw22_permuted.l0 kq x0_1 x1_1 a2 l3 x9_1 = some (r1, r2, r3)) ∧ Aside0 (kq ≤ k) ∧ Aside0 (Kd.R k39 39 w' w0.heap.size (fun k_ => ((P0_ k_ ∨ P1_ k_) ∨ w.heap.size ≤ k_)) (.slice Ao9 l0.length co9) x0_1) ∧ Aside0 (Kd.R Kd.bool 4 w' w0.heap.size (fun k_ => ((P0_ k_ ∨ P1_ k_) ∨ w.heap.size ≤ k_)) u9001_ x1_1) ∧ Aside0 (Kept w w' (fun k_ => P0_ k_ ∨ P1_ k_)) ∧ Aside0 (Below w0.heap.size w0 w'))
  case atStart => exact ⟨(l0), (l1), (0), (by first | rfl | (simp; done) | (simp [*]; done)), H', ⟨Nat.le_refl _⟩, ⟨by (with_reducible repeat (first | apply Kd.R_alloc | apply Kd.R_drewN | apply Kd.R_drew)); exact HO0.out⟩, ⟨by (with_reducible repeat (first | apply Kd.R_alloc | apply Kd.R_drewN | apply Kd.R_drew)); exact HO1.out⟩, ⟨by repeat (first | (with_reducible first | exact HK.out | apply Kept.alloc | apply Kept.drewN | apply Kept.drew) | exact HK.out)⟩, ⟨by repeat (first | (with_reducible first | exact HB.out | apply below_alloc | apply pw_below_drewN | apply below_drew1) | exact HB.out)⟩⟩
  case round =>
   clear H'
   try clear c1
   try clear p2
   try clear c3
   try clear c5
   try clear c5b0
   try clear c5b1
   obtain ⟨x0_1, x1_1, x9_1, rfl, HA, HK1, HO_0, HO_1, HK, HB⟩ := hrel
   have hl0_1 := (Kd.R_reads' HO_0.out).1
   rw [hl0_1] at HO_0
   (try simp only [hl0_1])
   (try simp only [hl0_1] at HO_1)
   cases gk with
   | zero => exact absurd HA.out (by simp [tithelaw22_permuted.l0])
   | succ k1 =>
    have H := HA.out
    clear HA
    simp only [tithelaw22_permuted.l0] at H
    by_cases c10 : x9_1 < (x0_1.length : Int)
    ·rw [if_pos c10] at H
     have c10b0 : decide (x9_1 < (x0_1.length : Int)) = true := decide_eq_true c10
     (try (have c10b7_0 := c10b0; rw [hl0_1] at c10b7_0))
     clear c10
     by_cases c11 : 0 ≤ x9_1
     ·rw [if_pos c11] at H
      have c11b0 : decide (0 ≤ x9_1) = true := decide_eq_true c11
      clear c11
      by_cases c12 : x9_1 < (x1_1.length : Int)
      ·rw [if_pos c12] at H
       have c12b0 : decide (x9_1 < (x1_1.length : Int)) = true := decide_eq_true c12
       (try (have c12b7_0 := c12b0; rw [hl0_1] at c12b7_0))
       clear c12
       obtain ⟨bq13, hbq13⟩ : ∃ b_ : Bool, b_ = (rdOf false x1_1 x9_1) := ⟨_, rfl⟩
       replace H : (if bq13 = true then (tithelaw22_permuted.l0 k1 x0_1 x1_1 a2 l3 (wrap64 (x9_1 + 1))) else ((tithelaw22_permuted.f k1 (x0_1.set (x9_1 : Int).toNat (⟨(rd_T39 x0_1 x9_1).f0, (rd_T39 x0_1 x9_1).f1, (rd_T39 x0_1 x9_1).f2, a2⟩ : S39)) (x1_1.set (x9_1 : Int).toNat true) (wrap64 (a2 + 1)) l3).bind fun bt277 => ((some (bt277.2.1.set (x9_1 : Int).toNat (⟨(rd_T39 bt277.2.1 x9_1).f0, (rd_T39 bt277.2.1 x9_1).f1, (rd_T39 bt277.2.1 x9_1).f2, (rd_T39 x0_1 x9_1).f3⟩ : S39) : List (S39))).bind fun y280 => ((some (bt277.2.2.set (x9_1 : Int).toNat false : List Bool)).bind fun y281 => (if bt277.1 = true then (some (true, y280, y281)) else (tithelaw22_permuted.l0 k1 y280 y281 a2 l3 (wrap64 (x9_1 + 1)))))))) = some (r1, r2, r3) := by rw [← hbq13] at H; exact H
       have Nbq13 := Aside0.mk hbq13
       clear hbq13
       by_cases c14 : bq13 = true
       ·subst c14
        have H1 : (tithelaw22_permuted.l0 k1 x0_1 x1_1 a2 l3 (wrap64 (x9_1 + 1))) = some (r1, r2, r3) := by rw [if_pos rfl] at H; exact H
        clear H
        have H := H1
        clear H1
        have H' := Aside0.mk H
        clear H
        obtain ⟨Ao15, co15, eo15⟩ := Kd.R_slice HO_1.out
        subst eo15
        have p273 : 0 ≤ (x9_1 : Int) := of_decide_eq_true (by first | (with_reducible assumption) | assumption)
        have q273 : x9_1 < (x1_1.length : Int) := of_decide_eq_true (by first | (with_reducible assumption) | assumption)
        obtain ⟨ad273, e273, hx273_0⟩ := Kd.at_bool (Kd.R_reads' HO_1.out).2.2 x9_1 p273 q273
        (try rw [← Nbq13.out] at hx273_0)
        cases e273
        replace p273 := eq_true p273
        replace q273 := eq_true q273
        go_wp2
        (try simp only [← hl0_1])
        go_roundg k1
        case measure => have := HK1.out; omega
        case rel => exact ⟨(x0_1), (x1_1), (wrap64 (x9_1 + 1)), (by first | rfl | (simp; done) | (simp [*]; done)), H', ⟨by have := HK1.out; omega⟩, ⟨by (try simp only [hl0_1]); (with_reducible repeat (first | apply Kd.R_alloc | apply Kd.R_drewN | apply Kd.R_drew)); exact HO_0.out⟩, ⟨by (try simp only [hl0_1]); (with_reducible repeat (first | apply Kd.R_alloc | apply Kd.R_drewN | apply Kd.R_drew)); exact HO_1.out⟩, ⟨by repeat (first | (with_reducible first | exact HK.out | apply Kept.alloc | apply Kept.drewN | apply Kept.drew) | exact HK.out)⟩, ⟨by repeat (first | (with_reducible first | exact HB.out | apply below_alloc | apply pw_below_drewN | apply below_drew1) | exact HB.out)⟩⟩
       ·replace c14 := Bool.eq_false_iff.mpr c14
        subst c14
        have H1 : ((tithelaw22_permuted.f k1 (x0_1.set (x9_1 : Int).toNat (⟨(rd_T39 x0_1 x9_1).f0, (rd_T39 x0_1 x9_1).f1, (rd_T39 x0_1 x9_1).f2, a2⟩ : S39)) (x1_1.set (x9_1 : Int).toNat true) (wrap64 (a2 + 1)) l3).bind fun bt277 => ((some (bt277.2.1.set (x9_1 : Int).toNat (⟨(rd_T39 bt277.2.1 x9_1).f0, (rd_T39 bt277.2.1 x9_1).f1, (rd_T39 bt277.2.1 x9_1).f2, (rd_T39 x0_1 x9_1).f3⟩ : S39) : List (S39))).bind fun y280 => ((some (bt277.2.2.set (x9_1 : Int).toNat false : List Bool)).bind fun y281 => (if bt277.1 = true then (some (true, y280, y281)) else (tithelaw22_permuted.l0 k1 y280 y281 a2 l3 (wrap64 (x9_1 + 1))))))) = some (r1, r2, r3) := by rw [if_neg (show ¬ (false = true) by decide)] at H; exact H
        clear H
        have H := H1
        clear H1
        obtain ⟨y274, hy274⟩ : ∃ y_ : List Bool, y_ = (x1_1.set (x9_1 : Int).toNat true) := ⟨_, rfl⟩
        replace H : ((tithelaw22_permuted.f k1 (x0_1.set (x9_1 : Int).toNat (⟨(rd_T39 x0_1 x9_1).f0, (rd_T39 x0_1 x9_1).f1, (rd_T39 x0_1 x9_1).f2, a2⟩ : S39)) y274 (wrap64 (a2 + 1)) l3).bind fun bt277 => ((some (bt277.2.1.set (x9_1 : Int).toNat (⟨(rd_T39 bt277.2.1 x9_1).f0, (rd_T39 bt277.2.1 x9_1).f1, (rd_T39 bt277.2.1 x9_1).f2, (rd_T39 x0_1 x9_1).f3⟩ : S39) : List (S39))).bind fun y280 => ((some (bt277.2.2.set (x9_1 : Int).toNat false : List Bool)).bind fun y281 => (if bt277.1 = true then (some (true, y280, y281)) else (tithelaw22_permuted.l0 k1 y280 y281 a2 l3 (wrap64 (x9_1 + 1))))))) = some (r1, r2, r3) := by first | (rw [hy274]; with_reducible exact H) | (have H2_ := (Option.bind_some _ _).symm.trans H; rw [hy274]; with_reducible exact H2_) | (have H2_ := (Option.bind_some _ _).symm.trans H; with_reducible exact H2_) | with_reducible exact H | (rw [hy274]; exact H) | exact H
        have Ny274 := Aside0.mk hy274
        clear hy274
        obtain ⟨y276, hy276⟩ : ∃ y_ : List (S39), y_ = (x0_1.set (x9_1 : Int).toNat (⟨(rd_T39 x0_1 x9_1).f0, (rd_T39 x0_1 x9_1).f1, (rd_T39 x0_1 x9_1).f2, a2⟩ : S39)) := ⟨_, rfl⟩
        replace H : ((tithelaw22_permuted.f k1 y276 y274 (wrap64 (a2 + 1)) l3).bind fun bt277 => ((some (bt277.2.1.set (x9_1 : Int).toNat (⟨(rd_T39 bt277.2.1 x9_1).f0, (rd_T39 bt277.2.1 x9_1).f1, (rd_T39 bt277.2.1 x9_1).f2, (rd_T39 x0_1 x9_1).f3⟩ : S39) : List (S39))).bind fun y280 => ((some (bt277.2.2.set (x9_1 : Int).toNat false : List Bool)).bind fun y281 => (if bt277.1 = true then (some (true, y280, y281)) else (tithelaw22_permuted.l0 k1 y280 y281 a2 l3 (wrap64 (x9_1 + 1))))))) = some (r1, r2, r3) := by first | (rw [hy276]; with_reducible exact H) | (have H2_ := (Option.bind_some _ _).symm.trans H; rw [hy276]; with_reducible exact H2_) | (have H2_ := (Option.bind_some _ _).symm.trans H; with_reducible exact H2_) | with_reducible exact H | (rw [hy276]; exact H) | exact H
        have Ny276 := Aside0.mk hy276
        clear hy276
        replace H := Option.bind_eq_some_iff.mp H
        obtain ⟨⟨t277, t278, t279⟩, A180, H⟩ := H
        replace H : ((some (t278.set (x9_1 : Int).toNat (⟨(rd_T39 t278 x9_1).f0, (rd_T39 t278 x9_1).f1, (rd_T39 t278 x9_1).f2, (rd_T39 x0_1 x9_1).f3⟩ : S39) : List (S39))).bind fun y280 => ((some (t279.set (x9_1 : Int).toNat false : List Bool)).bind fun y281 => (if t277 = true then (some (true, y280, y281)) else (tithelaw22_permuted.l0 k1 y280 y281 a2 l3 (wrap64 (x9_1 + 1)))))) = some (r1, r2, r3) := H
        have A18 := Aside0.mk A180
        clear A180
        obtain ⟨y280, hy280⟩ : ∃ y_ : List (S39), y_ = (t278.set (x9_1 : Int).toNat (⟨(rd_T39 t278 x9_1).f0, (rd_T39 t278 x9_1).f1, (rd_T39 t278 x9_1).f2, (rd_T39 x0_1 x9_1).f3⟩ : S39)) := ⟨_, rfl⟩
        replace H : ((some (t279.set (x9_1 : Int).toNat false : List Bool)).bind fun y281 => (if t277 = true then (some (true, y280, y281)) else (tithelaw22_permuted.l0 k1 y280 y281 a2 l3 (wrap64 (x9_1 + 1))))) = some (r1, r2, r3) := by first | (rw [hy280]; with_reducible exact H) | (have H2_ := (Option.bind_some _ _).symm.trans H; rw [hy280]; with_reducible exact H2_) | (have H2_ := (Option.bind_some _ _).symm.trans H; with_reducible exact H2_) | with_reducible exact H | (rw [hy280]; exact H) | exact H
        have Ny280 := Aside0.mk hy280
        clear hy280
        obtain ⟨y281, hy281⟩ : ∃ y_ : List Bool, y_ = (t279.set (x9_1 : Int).toNat false) := ⟨_, rfl⟩
        replace H : (if t277 = true then (some (true, y280, y281)) else (tithelaw22_permuted.l0 k1 y280 y281 a2 l3 (wrap64 (x9_1 + 1)))) = some (r1, r2, r3) := by first | (rw [hy281]; with_reducible exact H) | (have H2_ := (Option.bind_some _ _).symm.trans H; rw [hy281]; with_reducible exact H2_) | (have H2_ := (Option.bind_some _ _).symm.trans H; with_reducible exact H2_) | with_reducible exact H | (rw [hy281]; exact H) | exact H
        have Ny281 := Aside0.mk hy281
        clear hy281
        by_cases c21 : t277 = true
        ·subst c21
         have H1 : (some (true, y280, y281)) = some (r1, r2, r3) := by rw [if_pos rfl] at H; exact H
         clear H
         have H := H1
         clear H1
         simp only [Option.some.injEq, Prod.mk.injEq] at H
         obtain ⟨rfl, rfl, rfl⟩ := H
         obtain ⟨Ao22, co22, eo22⟩ := Kd.R_slice HO_1.out
         subst eo22
         have p273 : 0 ≤ (x9_1 : Int) := of_decide_eq_true (by first | (with_reducible assumption) | assumption)
         have q273 : x9_1 < (x1_1.length : Int) := of_decide_eq_true (by first | (with_reducible assumption) | assumption)
         obtain ⟨ad273, e273, hx273_0⟩ := Kd.at_bool (Kd.R_reads' HO_1.out).2.2 x9_1 p273 q273
         (try rw [← Nbq13.out] at hx273_0)
         cases e273
         replace p273 := eq_true p273
         replace q273 := eq_true q273
         have p16 : 0 ≤ (x9_1 : Int) := of_decide_eq_true (by first | (with_reducible assumption) | assumption)
         have q16 : (x9_1 : Int) < ((x1_1.length : Int) : Int) := of_decide_eq_true (by first | (with_reducible assumption) | assumption)
         obtain ⟨go16, co16, eo16, gb16, gl16, cl16, HG16⟩ := Kd.R_form HO_1.out (by omega)
         (first | cases eo16 | (injection eo16 with ea_ en_ ec_; (first | subst ea_ | (injection ea_ with ea_; subst ea_)); subst ec_; clear en_))
         have GB16 := Aside0.mk gb16
         have GG16 := Aside0.mk HG16
         clear gb16 gl16 HG16
         have HMgo16 := Aside0.mk (show ((P0_ go16 ∨ P1_ go16) ∨ w.heap.size ≤ go16) from (HO_1.out.1 _ rfl))
         (first | simp only [add_plain] at hx273_0 | skip)
         obtain ⟨hx16_0, hf16_0⟩ := Kd.R_celln false HO_1.out (x9_1 : Int) p16 q16
         replace p16 := eq_true p16
         replace q16 := eq_true q16
         have HP23 := Kd.R_putg HO_1.out (x9_1 : Int) true
         go_wp2_with (first | ((with_reducible refine gate_store (t := 4) (p := 32) rfl ?_); refine store_event (t := 4) (p := 32) (v := ?vo_w24) (w1 := (wr.setCell ⟨go16, (x9_1 : Int).toNat, none⟩ (.bool true))) ?hg ?ho ?hn ?hr ?_; (case ho => rfl); (case hg => rfl); (case hn => rfl); (case hr => first | (go_simp; done) | (go_simp; rfl)); intro w24 hw; have hg : wr.grownBy w24 (some go16) := (by rw [hw]; exact HP23.2); have hp_ : Kd.R Kd.bool 4 w24 w0.heap.size (fun k_ => ((P0_ k_ ∨ P1_ k_) ∨ w.heap.size ≤ k_)) (.slice (some ⟨go16, 0, none⟩) x1_1.length co22) y274 := (by rw [hw, Ny274.out]; exact HP23.1); clear HP23; have n0_ := Aside0.mk (Kd.R_over' (v := (.slice (some ⟨go16, 0, none⟩) x1_1.length co22)) (by (with_reducible repeat (first | apply Kd.R_alloc | apply Kd.R_drewN | apply Kd.R_drew)); exact HO_0.out) (Kd.R_typed HO_1.out) (by decide) hg); have n1_ := Aside0.mk (hp_); have n2_ := Aside0.mk ((by rw [hw]; exact below_set (HB.out) GB16.out : Below w0.heap.size w0 w24)); have n3_ := Aside0.mk (Kept.of_grown (S := (fun k_ => P0_ k_ ∨ P1_ k_)) hg (by repeat (first | (with_reducible first | exact HK.out | apply Kept.alloc | apply Kept.drewN | apply Kept.drew) | exact HK.out)) (fun k_ e_ => (HO_1.out.1 k_ e_))); clear HO_0; clear HO_1; clear HB; clear HK; have HO_0 := n0_; have HO_1 := n1_; have HB := n2_; have HK := n3_; clear n0_ n1_ n2_ n3_; clear hg hw hp_; have p275 : 0 ≤ (x9_1 : Int) := of_decide_eq_true (by first | (with_reducible assumption) | assumption); have q275 : x9_1 < (x0_1.length : Int) := of_decide_eq_true (by first | (with_reducible assumption) | assumption); obtain ⟨ad275, e275, hx275_0, hx275_1, hx275_2, hx275_3⟩ := at_T39 (Kd.R_reads' HO_0.out).2.2 x9_1 p275 q275; cases e275; replace p275 := eq_true p275; replace q275 := eq_true q275; have p17 : 0 ≤ (x9_1 : Int) := of_decide_eq_true (by first | (with_reducible assumption) | assumption); have q17 : (x9_1 : Int) < ((x0_1.length : Int) : Int) := of_decide_eq_true (by first | (with_reducible assumption) | assumption); obtain ⟨go17, co17, eo17, gb17, gl17, cl17, HG17⟩ := Kd.R_form HO_0.out (by omega); (first | cases eo17 | (injection eo17 with ea_ en_ ec_; (first | subst ea_ | (injection ea_ with ea_; subst ea_)); subst ec_; clear en_)); have GB17 := Aside0.mk gb17; have GG17 := Aside0.mk HG17; clear gb17 gl17 HG17; have HMgo17 := Aside0.mk (show ((P0_ go17 ∨ P1_ go17) ∨ w.heap.size ≤ go17) from (HO_0.out.1 _ rfl)); (first | simp only [add_plain] at hx275_0 | skip); (first | simp only [add_plain] at hx275_1 | skip); (first | simp only [add_plain] at hx275_2 | skip); (first | simp only [add_plain] at hx275_3 | skip); obtain ⟨ce17, hcl17, hM17, hcc17, hfr17⟩ := Kd.R_elem HO_0.out z39 (x9_1 : Int) p17 q17; obtain rfl := k39_openM hM17; have hx17_0 : w24.cell? ⟨go17, (x9_1 : Int).toNat * 4, none⟩ = some (.int .i64 ((rd_T39 x0_1 x9_1).f0)) := hcc17 0 _ rfl; have hx17_1 : w24.cell? ⟨go17, (x9_1 : Int).toNat * 4 + 1, none⟩ = some (.int .i64 ((rd_T39 x0_1 x9_1).f1)) := hcc17 1 _ rfl; have hx17_2 : w24.cell? ⟨go17, (x9_1 : Int).toNat * 4 + 2, none⟩ = some (.int .i64 ((rd_T39 x0_1 x9_1).f2)) := hcc17 2 _ rfl; have hx17_3 : w24.cell? ⟨go17, (x9_1 : Int).toNat * 4 + 3, none⟩ = some (.int .i64 ((rd_T39 x0_1 x9_1).f3)) := hcc17 3 _ rfl; have hf17_0 : w24.frozen? ⟨go17, (x9_1 : Int).toNat * 4, none⟩ = false := hfr17 0; have hf17_1 : w24.frozen? ⟨go17, (x9_1 : Int).toNat * 4 + 1, none⟩ = false := hfr17 1; have hf17_2 : w24.frozen? ⟨go17, (x9_1 : Int).toNat * 4 + 2, none⟩ = false := hfr17 2; have hf17_3 : w24.frozen? ⟨go17, (x9_1 : Int).toNat * 4 + 3, none⟩ = false := hfr17 3; clear hcl17 hcc17 hfr17 hM17; replace p17 := eq_true p17; replace q17 := eq_true q17; have HX25 := Aside0.mk (show Kd.R k39 39 w24 w0.heap.size (fun k_ => ((P0_ k_ ∨ P1_ k_) ∨ w.heap.size ≤ k_)) (.slice (some ⟨go17, 0, none⟩) x0_1.length co9) x0_1 from (by (with_reducible repeat (first | apply Kd.R_alloc | apply Kd.R_drewN | apply Kd.R_drew)); exact HO_0.out)); obtain ⟨ce25, hcl25, hM25, hcc25, hfr25⟩ := Kd.R_elem HX25.out z39 (x9_1 : Int) (of_decide_eq_true (by first | (with_reducible assumption) | assumption)) (by have h_ : (x9_1 : Int) < ((x0_1.length : Int) : Int) := of_decide_eq_true (by first | (with_reducible assumption) | assumption); first | exact h_ | (have e_ := (Kd.R_reads' HO_0.out).1; omega) | (simp; done) | simpa using h_); obtain rfl := k39_openM hM25; have HP25 := Kd.R_seg HX25.out (x9_1 : Int) (of_decide_eq_true (by first | (with_reducible assumption) | assumption)) (by have h_ : (x9_1 : Int) < ((x0_1.length : Int) : Int) := of_decide_eq_true (by first | (with_reducible assumption) | assumption); first | exact h_ | (have e_ := (Kd.R_reads' HO_0.out).1; omega) | (simp; done) | simpa using h_) (seg := [.int .i64 a2]) (j := 3) hcl25 hcc25 (show 4 ≤ 4 from by decide) (x' := (⟨(rd_T39 x0_1 x9_1).f0, (rd_T39 x0_1 x9_1).f1, (rd_T39 x0_1 x9_1).f2, a2⟩ : S39)) (k39_mkM _ _ _ (⟨(rd_T39 x0_1 x9_1).f0, (rd_T39 x0_1 x9_1).f1, (rd_T39 x0_1 x9_1).f2, a2⟩ : S39) ) (fun _ hk => hk); have hx25_3 := hcc25 3 _ rfl; (try simp only [show (k39).sz = 4 from rfl, Nat.mul_one, Nat.add_zero] at hx25_3); have hf25_3 := hfr25 3; (try simp only [show (k39).sz = 4 from rfl, Nat.mul_one, Nat.add_zero] at hf25_3); clear hcl25 hcc25 hfr25 hM25) | ((with_reducible refine gate_store (t := 3) (p := 42) rfl ?_); refine store_event (t := 3) (p := 42) (v := ?vo_w26) (w1 := (w24.setCell ⟨go17, (x9_1 : Int).toNat * 4 + 3, none⟩ (.int .i64 a2))) ?hg ?ho ?hn ?hr ?_; (case ho => rfl); (case hg => rfl); (case hn => rfl); (case hr => first | (go_simp; done) | (go_simp; rfl)); intro w26 hw; have hg : w24.grownBy w26 (some go17) := (by rw [hw]; exact HP25.2); have hp_ : Kd.R k39 39 w26 w0.heap.size (fun k_ => ((P0_ k_ ∨ P1_ k_) ∨ w.heap.size ≤ k_)) (.slice (some ⟨go17, 0, none⟩) x0_1.length co9) y276 := (by rw [hw, Ny276.out]; exact HP25.1); clear HP25; have n0_ := Aside0.mk (hp_); have n1_ := Aside0.mk (Kd.R_over' (v := (.slice (some ⟨go17, 0, none⟩) x0_1.length co9)) (by (with_reducible repeat (first | apply Kd.R_alloc | apply Kd.R_drewN | apply Kd.R_drew)); exact HO_1.out) (Kd.R_typed HO_0.out) (by decide) hg); have n2_ := Aside0.mk ((by rw [hw]; exact below_set (HB.out) GB17.out : Below w0.heap.size w0 w26)); have n3_ := Aside0.mk (Kept.of_grown (S := (fun k_ => P0_ k_ ∨ P1_ k_)) hg (by repeat (first | (with_reducible first | exact HK.out | apply Kept.alloc | apply Kept.drewN | apply Kept.drew) | exact HK.out)) (fun k_ e_ => (HO_0.out.1 k_ e_))); clear HO_0; clear HO_1; clear HB; clear HK; have HO_0 := n0_; have HO_1 := n1_; have HB := n2_; have HK := n3_; clear n0_ n1_ n2_ n3_; clear hg hw hp_) | ((with_reducible refine gate_callee (f := 10) rfl ?_); refine goesL_ (some 48) rfl rfl Try.func10 (by kernel_rfl) rfl #[.slice (some ⟨go17, 0, none⟩) x0_1.length co9, .slice (some ⟨go16, 0, none⟩) x1_1.length co22, .int .i64 (wrap64 (a2 + 1)), .slice A3 l3.length c3] rfl (by (try simp only [List.map_toArray, List.map_cons, List.map_nil]); first | done | rfl | (simp only [List.length_drop, List.length_take]; rfl)) ?_; (with_reducible refine (ih k1 (by have := HK1.out; omega) (fun k_ => some k_ = (.slice (some ⟨go17, 0, none⟩) x0_1.length co9 : Value).ownBlock) (.slice (some ⟨go17, 0, none⟩) x0_1.length co9) y276 (fun k_ => some k_ = (.slice (some ⟨go16, 0, none⟩) x1_1.length co22 : Value).ownBlock) (.slice (some ⟨go16, 0, none⟩) x1_1.length co22) y274 (wrap64 (a2 + 1)) _ _ l3 true t278 t279 w0 _ ?side1 ?side2 ?side3 ?side4 ?side5 A18.out).mono ?_); (case side1 => repeat (first | (with_reducible first | exact HB.out | apply below_alloc | apply pw_below_drewN | apply below_drew1) | exact HB.out)); (case side2 => exact Kd.R_tight rfl HO_0.out); (case side3 => exact Kd.R_tight rfl HO_1.out); (case side4 => exact Kd.C_kept_call HR3.out (by repeat (first | (with_reducible first | exact HK.out | apply Kept.alloc | apply Kept.drewN | apply Kept.drew) | exact HK.out)) (fun k_ hs_ => Or.elim hs_ (fun e_ => (fun e_ => (HO_0.out.1 k_ e_.symm)) e_) (fun e_ => (fun e_ => (HO_1.out.1 k_ e_.symm)) e_))); (case side5 => exact HC3.out); rintro e w27 ⟨rfl, hy0, hy1, hb, hkp⟩; refine ⟨_, rfl, ?_⟩; have n0_ := Aside0.mk (Kd.R_reok rfl hy0 (fun k_ e_ => HO_0.out.1 k_ e_)); have n1_ := Aside0.mk (Kd.R_reok rfl hy1 (fun k_ e_ => HO_1.out.1 k_ e_)); have n2_ := Aside0.mk (Kept.then_ (S := (fun k_ => P0_ k_ ∨ P1_ k_)) (by repeat (first | (with_reducible first | exact HK.out | apply Kept.alloc | apply Kept.drewN | apply Kept.drew) | exact HK.out)) hkp (fun k_ hs_ => Or.elim hs_ (fun e_ => (fun e_ => (HO_0.out.1 k_ e_.symm)) e_) (fun e_ => (fun e_ => (HO_1.out.1 k_ e_.symm)) e_))); have n3_ := Aside0.mk (hb); clear HO_0; clear HO_1; clear HK; clear HB; have HO_0 := n0_; have HO_1 := n1_; have HK := n2_; have HB := n3_; clear n0_ n1_ n2_ n3_; (try clear hb); (try clear hkp); (try clear hy0); (try clear hy1); have p19 : 0 ≤ (x9_1 : Int) := of_decide_eq_true (by first | (with_reducible assumption) | assumption); have q19 : (x9_1 : Int) < ((x0_1.length : Int) : Int) := of_decide_eq_true (by first | (with_reducible assumption) | assumption); obtain ⟨ce19, hcl19, hM19, hcc19, hfr19⟩ := Kd.R_elem HO_0.out z39 (x9_1 : Int) p19 q19; obtain rfl := k39_openM hM19; have hx19_0 : w27.cell? ⟨go17, (x9_1 : Int).toNat * 4, none⟩ = some (.int .i64 ((rd_T39 t278 x9_1).f0)) := hcc19 0 _ rfl; have hx19_1 : w27.cell? ⟨go17, (x9_1 : Int).toNat * 4 + 1, none⟩ = some (.int .i64 ((rd_T39 t278 x9_1).f1)) := hcc19 1 _ rfl; have hx19_2 : w27.cell? ⟨go17, (x9_1 : Int).toNat * 4 + 2, none⟩ = some (.int .i64 ((rd_T39 t278 x9_1).f2)) := hcc19 2 _ rfl; have hx19_3 : w27.cell? ⟨go17, (x9_1 : Int).toNat * 4 + 3, none⟩ = some (.int .i64 ((rd_T39 t278 x9_1).f3)) := hcc19 3 _ rfl; have hf19_0 : w27.frozen? ⟨go17, (x9_1 : Int).toNat * 4, none⟩ = false := hfr19 0; have hf19_1 : w27.frozen? ⟨go17, (x9_1 : Int).toNat * 4 + 1, none⟩ = false := hfr19 1; have hf19_2 : w27.frozen? ⟨go17, (x9_1 : Int).toNat * 4 + 2, none⟩ = false := hfr19 2; have hf19_3 : w27.frozen? ⟨go17, (x9_1 : Int).toNat * 4 + 3, none⟩ = false := hfr19 3; clear hcl19 hcc19 hfr19 hM19; replace p19 := eq_true p19; replace q19 := eq_true q19; have HX28 := Aside0.mk (show Kd.R k39 39 w27 w0.heap.size (fun k_ => ((P0_ k_ ∨ P1_ k_) ∨ w.heap.size ≤ k_)) (.slice (some ⟨go17, 0, none⟩) x0_1.length co9) t278 from (by (with_reducible repeat (first | apply Kd.R_alloc | apply Kd.R_drewN | apply Kd.R_drew)); exact HO_0.out)); obtain ⟨ce28, hcl28, hM28, hcc28, hfr28⟩ := Kd.R_elem HX28.out z39 (x9_1 : Int) (of_decide_eq_true (by first | (with_reducible assumption) | assumption)) (by have h_ : (x9_1 : Int) < ((x0_1.length : Int) : Int) := of_decide_eq_true (by first | (with_reducible assumption) | assumption); first | exact h_ | (have e_ := (Kd.R_reads' HO_0.out).1; omega) | (simp; done) | simpa using h_); obtain rfl := k39_openM hM28; have HP28 := Kd.R_seg HX28.out (x9_1 : Int) (of_decide_eq_true (by first | (with_reducible assumption) | assumption)) (by have h_ : (x9_1 : Int) < ((x0_1.length : Int) : Int) := of_decide_eq_true (by first | (with_reducible assumption) | assumption); first | exact h_ | (have e_ := (Kd.R_reads' HO_0.out).1; omega) | (simp; done) | simpa using h_) (seg := [.int .i64 ((rd_T39 x0_1 x9_1).f3)]) (j := 3) hcl28 hcc28 (show 4 ≤ 4 from by decide) (x' := (⟨(rd_T39 t278 x9_1).f0, (rd_T39 t278 x9_1).f1, (rd_T39 t278 x9_1).f2, (rd_T39 x0_1 x9_1).f3⟩ : S39)) (k39_mkM _ _ _ (⟨(rd_T39 t278 x9_1).f0, (rd_T39 t278 x9_1).f1, (rd_T39 t278 x9_1).f2, (rd_T39 x0_1 x9_1).f3⟩ : S39) ) (fun _ hk => hk); have hx28_3 := hcc28 3 _ rfl; (try simp only [show (k39).sz = 4 from rfl, Nat.mul_one, Nat.add_zero] at hx28_3); have hf28_3 := hfr28 3; (try simp only [show (k39).sz = 4 from rfl, Nat.mul_one, Nat.add_zero] at hf28_3); clear hcl28 hcc28 hfr28 hM28) | ((with_reducible refine gate_store (t := 3) (p := 53) rfl ?_); refine store_event (t := 3) (p := 53) (v := ?vo_w29) (w1 := (w27.setCell ⟨go17, (x9_1 : Int).toNat * 4 + 3, none⟩ (.int .i64 ((rd_T39 x0_1 x9_1).f3)))) ?hg ?ho ?hn ?hr ?_; (case ho => rfl); (case hg => rfl); (case hn => rfl); (case hr => first | (go_simp; done) | (go_simp; rfl)); intro w29 hw; have hg : w27.grownBy w29 (some go17) := (by rw [hw]; exact HP28.2); have hp_ : Kd.R k39 39 w29 w0.heap.size (fun k_ => ((P0_ k_ ∨ P1_ k_) ∨ w.heap.size ≤ k_)) (.slice (some ⟨go17, 0, none⟩) x0_1.length co9) y280 := (by rw [hw, Ny280.out]; exact HP28.1); clear HP28; have n0_ := Aside0.mk (hp_); have n1_ := Aside0.mk (Kd.R_over' (v := (.slice (some ⟨go17, 0, none⟩) x0_1.length co9)) (by (with_reducible repeat (first | apply Kd.R_alloc | apply Kd.R_drewN | apply Kd.R_drew)); exact HO_1.out) (Kd.R_typed HO_0.out) (by decide) hg); have n2_ := Aside0.mk ((by rw [hw]; exact below_set (HB.out) GB17.out : Below w0.heap.size w0 w29)); have n3_ := Aside0.mk (Kept.of_grown (S := (fun k_ => P0_ k_ ∨ P1_ k_)) hg (by repeat (first | (with_reducible first | exact HK.out | apply Kept.alloc | apply Kept.drewN | apply Kept.drew) | exact HK.out)) (fun k_ e_ => (HO_0.out.1 k_ e_))); clear HO_0; clear HO_1; clear HB; clear HK; have HO_0 := n0_; have HO_1 := n1_; have HB := n2_; have HK := n3_; clear n0_ n1_ n2_ n3_; clear hg hw hp_; have p20 : 0 ≤ (x9_1 : Int) := of_decide_eq_true (by first | (with_reducible assumption) | assumption); have q20 : (x9_1 : Int) < ((x1_1.length : Int) : Int) := of_decide_eq_true (by first | (with_reducible assumption) | assumption); obtain ⟨hx20_0, hf20_0⟩ := Kd.R_celln false HO_1.out (x9_1 : Int) p20 q20; replace p20 := eq_true p20; replace q20 := eq_true q20; obtain ⟨hy30_, hz30_⟩ := Kd.R_celln false HO_1.out (x9_1 : Int) (of_decide_eq_true (by first | (with_reducible assumption) | assumption)) (of_decide_eq_true (by first | (with_reducible assumption) | assumption)); have HP30 := Kd.R_putg HO_1.out (x9_1 : Int) false) | ((with_reducible refine gate_store (t := 4) (p := 56) rfl ?_); refine store_event (t := 4) (p := 56) (v := ?vo_w31) (w1 := (w29.setCell ⟨go16, (x9_1 : Int).toNat, none⟩ (.bool false))) ?hg ?ho ?hn ?hr ?_; (case ho => rfl); (case hg => rfl); (case hn => rfl); (case hr => first | (go_simp; done) | (go_simp; rfl)); intro w31 hw; have hg : w29.grownBy w31 (some go16) := (by rw [hw]; exact HP30.2); have hp_ : Kd.R Kd.bool 4 w31 w0.heap.size (fun k_ => ((P0_ k_ ∨ P1_ k_) ∨ w.heap.size ≤ k_)) (.slice (some ⟨go16, 0, none⟩) x1_1.length co22) y281 := (by rw [hw, Ny281.out]; exact HP30.1); clear HP30; have n0_ := Aside0.mk (Kd.R_over' (v := (.slice (some ⟨go16, 0, none⟩) x1_1.length co22)) (by (with_reducible repeat (first | apply Kd.R_alloc | apply Kd.R_drewN | apply Kd.R_drew)); exact HO_0.out) (Kd.R_typed HO_1.out) (by decide) hg); have n1_ := Aside0.mk (hp_); have n2_ := Aside0.mk ((by rw [hw]; exact below_set (HB.out) GB16.out : Below w0.heap.size w0 w31)); have n3_ := Aside0.mk (Kept.of_grown (S := (fun k_ => P0_ k_ ∨ P1_ k_)) hg (by repeat (first | (with_reducible first | exact HK.out | apply Kept.alloc | apply Kept.drewN | apply Kept.drew) | exact HK.out)) (fun k_ e_ => (HO_1.out.1 k_ e_))); clear HO_0; clear HO_1; clear HB; clear HK; have HO_0 := n0_; have HO_1 := n1_; have HB := n2_; have HK := n3_; clear n0_ n1_ n2_ n3_; clear hg hw hp_))
         go_ret
         exact ⟨by first | rfl | (simp [errW_none, errW_some] <;> rfl) | (simp [*, errW_none, errW_some] <;> rfl), (by first | exact (by (with_reducible repeat (first | apply Kd.R_alloc | apply Kd.R_drewN | apply Kd.R_drew)); exact HO_0.out) | (simp only [hl0_1]; exact (by (with_reducible repeat (first | apply Kd.R_alloc | apply Kd.R_drewN | apply Kd.R_drew)); exact HO_0.out))), (by first | exact (by (with_reducible repeat (first | apply Kd.R_alloc | apply Kd.R_drewN | apply Kd.R_drew)); exact HO_1.out) | (simp only [hl0_1]; exact (by (with_reducible repeat (first | apply Kd.R_alloc | apply Kd.R_drewN | apply Kd.R_drew)); exact HO_1.out))), by repeat (first | (with_reducible first | exact HB.out | apply below_alloc | apply pw_below_drewN | apply below_drew1) | exact HB.out), by repeat (first | (with_reducible first | exact HK.out | apply Kept.alloc | apply Kept.drewN | apply Kept.drew) | exact HK.out)⟩
        ·replace c21 := Bool.eq_false_iff.mpr c21
         subst c21
         have H1 : (tithelaw22_permuted.l0 k1 y280 y281 a2 l3 (wrap64 (x9_1 + 1))) = some (r1, r2, r3) := by rw [if_neg (show ¬ (false = true) by decide)] at H; exact H
         clear H
         have H := H1
         clear H1
         have H' := Aside0.mk H
         clear H
         obtain ⟨Ao32, co32, eo32⟩ := Kd.R_slice HO_1.out
         subst eo32
         have p273 : 0 ≤ (x9_1 : Int) := of_decide_eq_true (by first | (with_reducible assumption) | assumption)
         have q273 : x9_1 < (x1_1.length : Int) := of_decide_eq_true (by first | (with_reducible assumption) | assumption)
         obtain ⟨ad273, e273, hx273_0⟩ := Kd.at_bool (Kd.R_reads' HO_1.out).2.2 x9_1 p273 q273
         (try rw [← Nbq13.out] at hx273_0)
         cases e273
         replace p273 := eq_true p273
         replace q273 := eq_true q273
         have p16 : 0 ≤ (x9_1 : Int) := of_decide_eq_true (by first | (with_reducible assumption) | assumption)
         have q16 : (x9_1 : Int) < ((x1_1.length : Int) : Int) := of_decide_eq_true (by first | (with_reducible assumption) | assumption)
         obtain ⟨go16, co16, eo16, gb16, gl16, cl16, HG16⟩ := Kd.R_form HO_1.out (by omega)
         (first | cases eo16 | (injection eo16 with ea_ en_ ec_; (first | subst ea_ | (injection ea_ with ea_; subst ea_)); subst ec_; clear en_))
         have GB16 := Aside0.mk gb16
         have GG16 := Aside0.mk HG16
         clear gb16 gl16 HG16
         have HMgo16 := Aside0.mk (show ((P0_ go16 ∨ P1_ go16) ∨ w.heap.size ≤ go16) from (HO_1.out.1 _ rfl))
         (first | simp only [add_plain] at hx273_0 | skip)
         obtain ⟨hx16_0, hf16_0⟩ := Kd.R_celln false HO_1.out (x9_1 : Int) p16 q16
         replace p16 := eq_true p16
         replace q16 := eq_true q16
         have HP33 := Kd.R_putg HO_1.out (x9_1 : Int) true
         go_wp2_with (first | ((with_reducible refine gate_store (t := 4) (p := 32) rfl ?_); refine store_event (t := 4) (p := 32) (v := ?vo_w34) (w1 := (wr.setCell ⟨go16, (x9_1 : Int).toNat, none⟩ (.bool true))) ?hg ?ho ?hn ?hr ?_; (case ho => rfl); (case hg => rfl); (case hn => rfl); (case hr => first | (go_simp; done) | (go_simp; rfl)); intro w34 hw; have hg : wr.grownBy w34 (some go16) := (by rw [hw]; exact HP33.2); have hp_ : Kd.R Kd.bool 4 w34 w0.heap.size (fun k_ => ((P0_ k_ ∨ P1_ k_) ∨ w.heap.size ≤ k_)) (.slice (some ⟨go16, 0, none⟩) x1_1.length co32) y274 := (by rw [hw, Ny274.out]; exact HP33.1); clear HP33; have n0_ := Aside0.mk (Kd.R_over' (v := (.slice (some ⟨go16, 0, none⟩) x1_1.length co32)) (by (with_reducible repeat (first | apply Kd.R_alloc | apply Kd.R_drewN | apply Kd.R_drew)); exact HO_0.out) (Kd.R_typed HO_1.out) (by decide) hg); have n1_ := Aside0.mk (hp_); have n2_ := Aside0.mk ((by rw [hw]; exact below_set (HB.out) GB16.out : Below w0.heap.size w0 w34)); have n3_ := Aside0.mk (Kept.of_grown (S := (fun k_ => P0_ k_ ∨ P1_ k_)) hg (by repeat (first | (with_reducible first | exact HK.out | apply Kept.alloc | apply Kept.drewN | apply Kept.drew) | exact HK.out)) (fun k_ e_ => (HO_1.out.1 k_ e_))); clear HO_0; clear HO_1; clear HB; clear HK; have HO_0 := n0_; have HO_1 := n1_; have HB := n2_; have HK := n3_; clear n0_ n1_ n2_ n3_; clear hg hw hp_; have p275 : 0 ≤ (x9_1 : Int) := of_decide_eq_true (by first | (with_reducible assumption) | assumption); have q275 : x9_1 < (x0_1.length : Int) := of_decide_eq_true (by first | (with_reducible assumption) | assumption); obtain ⟨ad275, e275, hx275_0, hx275_1, hx275_2, hx275_3⟩ := at_T39 (Kd.R_reads' HO_0.out).2.2 x9_1 p275 q275; cases e275; replace p275 := eq_true p275; replace q275 := eq_true q275; have p17 : 0 ≤ (x9_1 : Int) := of_decide_eq_true (by first | (with_reducible assumption) | assumption); have q17 : (x9_1 : Int) < ((x0_1.length : Int) : Int) := of_decide_eq_true (by first | (with_reducible assumption) | assumption); obtain ⟨go17, co17, eo17, gb17, gl17, cl17, HG17⟩ := Kd.R_form HO_0.out (by omega); (first | cases eo17 | (injection eo17 with ea_ en_ ec_; (first | subst ea_ | (injection ea_ with ea_; subst ea_)); subst ec_; clear en_)); have GB17 := Aside0.mk gb17; have GG17 := Aside0.mk HG17; clear gb17 gl17 HG17; have HMgo17 := Aside0.mk (show ((P0_ go17 ∨ P1_ go17) ∨ w.heap.size ≤ go17) from (HO_0.out.1 _ rfl)); (first | simp only [add_plain] at hx275_0 | skip); (first | simp only [add_plain] at hx275_1 | skip); (first | simp only [add_plain] at hx275_2 | skip); (first | simp only [add_plain] at hx275_3 | skip); obtain ⟨ce17, hcl17, hM17, hcc17, hfr17⟩ := Kd.R_elem HO_0.out z39 (x9_1 : Int) p17 q17; obtain rfl := k39_openM hM17; have hx17_0 : w34.cell? ⟨go17, (x9_1 : Int).toNat * 4, none⟩ = some (.int .i64 ((rd_T39 x0_1 x9_1).f0)) := hcc17 0 _ rfl; have hx17_1 : w34.cell? ⟨go17, (x9_1 : Int).toNat * 4 + 1, none⟩ = some (.int .i64 ((rd_T39 x0_1 x9_1).f1)) := hcc17 1 _ rfl; have hx17_2 : w34.cell? ⟨go17, (x9_1 : Int).toNat * 4 + 2, none⟩ = some (.int .i64 ((rd_T39 x0_1 x9_1).f2)) := hcc17 2 _ rfl; have hx17_3 : w34.cell? ⟨go17, (x9_1 : Int).toNat * 4 + 3, none⟩ = some (.int .i64 ((rd_T39 x0_1 x9_1).f3)) := hcc17 3 _ rfl; have hf17_0 : w34.frozen? ⟨go17, (x9_1 : Int).toNat * 4, none⟩ = false := hfr17 0; have hf17_1 : w34.frozen? ⟨go17, (x9_1 : Int).toNat * 4 + 1, none⟩ = false := hfr17 1; have hf17_2 : w34.frozen? ⟨go17, (x9_1 : Int).toNat * 4 + 2, none⟩ = false := hfr17 2; have hf17_3 : w34.frozen? ⟨go17, (x9_1 : Int).toNat * 4 + 3, none⟩ = false := hfr17 3; clear hcl17 hcc17 hfr17 hM17; replace p17 := eq_true p17; replace q17 := eq_true q17; have HX35 := Aside0.mk (show Kd.R k39 39 w34 w0.heap.size (fun k_ => ((P0_ k_ ∨ P1_ k_) ∨ w.heap.size ≤ k_)) (.slice (some ⟨go17, 0, none⟩) x0_1.length co9) x0_1 from (by (with_reducible repeat (first | apply Kd.R_alloc | apply Kd.R_drewN | apply Kd.R_drew)); exact HO_0.out)); obtain ⟨ce35, hcl35, hM35, hcc35, hfr35⟩ := Kd.R_elem HX35.out z39 (x9_1 : Int) (of_decide_eq_true (by first | (with_reducible assumption) | assumption)) (by have h_ : (x9_1 : Int) < ((x0_1.length : Int) : Int) := of_decide_eq_true (by first | (with_reducible assumption) | assumption); first | exact h_ | (have e_ := (Kd.R_reads' HO_0.out).1; omega) | (simp; done) | simpa using h_); obtain rfl := k39_openM hM35; have HP35 := Kd.R_seg HX35.out (x9_1 : Int) (of_decide_eq_true (by first | (with_reducible assumption) | assumption)) (by have h_ : (x9_1 : Int) < ((x0_1.length : Int) : Int) := of_decide_eq_true (by first | (with_reducible assumption) | assumption); first | exact h_ | (have e_ := (Kd.R_reads' HO_0.out).1; omega) | (simp; done) | simpa using h_) (seg := [.int .i64 a2]) (j := 3) hcl35 hcc35 (show 4 ≤ 4 from by decide) (x' := (⟨(rd_T39 x0_1 x9_1).f0, (rd_T39 x0_1 x9_1).f1, (rd_T39 x0_1 x9_1).f2, a2⟩ : S39)) (k39_mkM _ _ _ (⟨(rd_T39 x0_1 x9_1).f0, (rd_T39 x0_1 x9_1).f1, (rd_T39 x0_1 x9_1).f2, a2⟩ : S39) ) (fun _ hk => hk); have hx35_3 := hcc35 3 _ rfl; (try simp only [show (k39).sz = 4 from rfl, Nat.mul_one, Nat.add_zero] at hx35_3); have hf35_3 := hfr35 3; (try simp only [show (k39).sz = 4 from rfl, Nat.mul_one, Nat.add_zero] at hf35_3); clear hcl35 hcc35 hfr35 hM35) | ((with_reducible refine gate_store (t := 3) (p := 42) rfl ?_); refine store_event (t := 3) (p := 42) (v := ?vo_w36) (w1 := (w34.setCell ⟨go17, (x9_1 : Int).toNat * 4 + 3, none⟩ (.int .i64 a2))) ?hg ?ho ?hn ?hr ?_; (case ho => rfl); (case hg => rfl); (case hn => rfl); (case hr => first | (go_simp; done) | (go_simp; rfl)); intro w36 hw; have hg : w34.grownBy w36 (some go17) := (by rw [hw]; exact HP35.2); have hp_ : Kd.R k39 39 w36 w0.heap.size (fun k_ => ((P0_ k_ ∨ P1_ k_) ∨ w.heap.size ≤ k_)) (.slice (some ⟨go17, 0, none⟩) x0_1.length co9) y276 := (by rw [hw, Ny276.out]; exact HP35.1); clear HP35; have n0_ := Aside0.mk (hp_); have n1_ := Aside0.mk (Kd.R_over' (v := (.slice (some ⟨go17, 0, none⟩) x0_1.length co9)) (by (with_reducible repeat (first | apply Kd.R_alloc | apply Kd.R_drewN | apply Kd.R_drew)); exact HO_1.out) (Kd.R_typed HO_0.out) (by decide) hg); have n2_ := Aside0.mk ((by rw [hw]; exact below_set (HB.out) GB17.out : Below w0.heap.size w0 w36)); have n3_ := Aside0.mk (Kept.of_grown (S := (fun k_ => P0_ k_ ∨ P1_ k_)) hg (by repeat (first | (with_reducible first | exact HK.out | apply Kept.alloc | apply Kept.drewN | apply Kept.drew) | exact HK.out)) (fun k_ e_ => (HO_0.out.1 k_ e_))); clear HO_0; clear HO_1; clear HB; clear HK; have HO_0 := n0_; have HO_1 := n1_; have HB := n2_; have HK := n3_; clear n0_ n1_ n2_ n3_; clear hg hw hp_) | ((with_reducible refine gate_callee (f := 10) rfl ?_); refine goesL_ (some 48) rfl rfl Try.func10 (by kernel_rfl) rfl #[.slice (some ⟨go17, 0, none⟩) x0_1.length co9, .slice (some ⟨go16, 0, none⟩) x1_1.length co32, .int .i64 (wrap64 (a2 + 1)), .slice A3 l3.length c3] rfl (by (try simp only [List.map_toArray, List.map_cons, List.map_nil]); first | done | rfl | (simp only [List.length_drop, List.length_take]; rfl)) ?_; (with_reducible refine (ih k1 (by have := HK1.out; omega) (fun k_ => some k_ = (.slice (some ⟨go17, 0, none⟩) x0_1.length co9 : Value).ownBlock) (.slice (some ⟨go17, 0, none⟩) x0_1.length co9) y276 (fun k_ => some k_ = (.slice (some ⟨go16, 0, none⟩) x1_1.length co32 : Value).ownBlock) (.slice (some ⟨go16, 0, none⟩) x1_1.length co32) y274 (wrap64 (a2 + 1)) _ _ l3 false t278 t279 w0 _ ?side1 ?side2 ?side3 ?side4 ?side5 A18.out).mono ?_); (case side1 => repeat (first | (with_reducible first | exact HB.out | apply below_alloc | apply pw_below_drewN | apply below_drew1) | exact HB.out)); (case side2 => exact Kd.R_tight rfl HO_0.out); (case side3 => exact Kd.R_tight rfl HO_1.out); (case side4 => exact Kd.C_kept_call HR3.out (by repeat (first | (with_reducible first | exact HK.out | apply Kept.alloc | apply Kept.drewN | apply Kept.drew) | exact HK.out)) (fun k_ hs_ => Or.elim hs_ (fun e_ => (fun e_ => (HO_0.out.1 k_ e_.symm)) e_) (fun e_ => (fun e_ => (HO_1.out.1 k_ e_.symm)) e_))); (case side5 => exact HC3.out); rintro e w37 ⟨rfl, hy0, hy1, hb, hkp⟩; refine ⟨_, rfl, ?_⟩; have n0_ := Aside0.mk (Kd.R_reok rfl hy0 (fun k_ e_ => HO_0.out.1 k_ e_)); have n1_ := Aside0.mk (Kd.R_reok rfl hy1 (fun k_ e_ => HO_1.out.1 k_ e_)); have n2_ := Aside0.mk (Kept.then_ (S := (fun k_ => P0_ k_ ∨ P1_ k_)) (by repeat (first | (with_reducible first | exact HK.out | apply Kept.alloc | apply Kept.drewN | apply Kept.drew) | exact HK.out)) hkp (fun k_ hs_ => Or.elim hs_ (fun e_ => (fun e_ => (HO_0.out.1 k_ e_.symm)) e_) (fun e_ => (fun e_ => (HO_1.out.1 k_ e_.symm)) e_))); have n3_ := Aside0.mk (hb); clear HO_0; clear HO_1; clear HK; clear HB; have HO_0 := n0_; have HO_1 := n1_; have HK := n2_; have HB := n3_; clear n0_ n1_ n2_ n3_; (try clear hb); (try clear hkp); (try clear hy0); (try clear hy1); have p19 : 0 ≤ (x9_1 : Int) := of_decide_eq_true (by first | (with_reducible assumption) | assumption); have q19 : (x9_1 : Int) < ((x0_1.length : Int) : Int) := of_decide_eq_true (by first | (with_reducible assumption) | assumption); obtain ⟨ce19, hcl19, hM19, hcc19, hfr19⟩ := Kd.R_elem HO_0.out z39 (x9_1 : Int) p19 q19; obtain rfl := k39_openM hM19; have hx19_0 : w37.cell? ⟨go17, (x9_1 : Int).toNat * 4, none⟩ = some (.int .i64 ((rd_T39 t278 x9_1).f0)) := hcc19 0 _ rfl; have hx19_1 : w37.cell? ⟨go17, (x9_1 : Int).toNat * 4 + 1, none⟩ = some (.int .i64 ((rd_T39 t278 x9_1).f1)) := hcc19 1 _ rfl; have hx19_2 : w37.cell? ⟨go17, (x9_1 : Int).toNat * 4 + 2, none⟩ = some (.int .i64 ((rd_T39 t278 x9_1).f2)) := hcc19 2 _ rfl; have hx19_3 : w37.cell? ⟨go17, (x9_1 : Int).toNat * 4 + 3, none⟩ = some (.int .i64 ((rd_T39 t278 x9_1).f3)) := hcc19 3 _ rfl; have hf19_0 : w37.frozen? ⟨go17, (x9_1 : Int).toNat * 4, none⟩ = false := hfr19 0; have hf19_1 : w37.frozen? ⟨go17, (x9_1 : Int).toNat * 4 + 1, none⟩ = false := hfr19 1; have hf19_2 : w37.frozen? ⟨go17, (x9_1 : Int).toNat * 4 + 2, none⟩ = false := hfr19 2; have hf19_3 : w37.frozen? ⟨go17, (x9_1 : Int).toNat * 4 + 3, none⟩ = false := hfr19 3; clear hcl19 hcc19 hfr19 hM19; replace p19 := eq_true p19; replace q19 := eq_true q19; have HX38 := Aside0.mk (show Kd.R k39 39 w37 w0.heap.size (fun k_ => ((P0_ k_ ∨ P1_ k_) ∨ w.heap.size ≤ k_)) (.slice (some ⟨go17, 0, none⟩) x0_1.length co9) t278 from (by (with_reducible repeat (first | apply Kd.R_alloc | apply Kd.R_drewN | apply Kd.R_drew)); exact HO_0.out)); obtain ⟨ce38, hcl38, hM38, hcc38, hfr38⟩ := Kd.R_elem HX38.out z39 (x9_1 : Int) (of_decide_eq_true (by first | (with_reducible assumption) | assumption)) (by have h_ : (x9_1 : Int) < ((x0_1.length : Int) : Int) := of_decide_eq_true (by first | (with_reducible assumption) | assumption); first | exact h_ | (have e_ := (Kd.R_reads' HO_0.out).1; omega) | (simp; done) | simpa using h_); obtain rfl := k39_openM hM38; have HP38 := Kd.R_seg HX38.out (x9_1 : Int) (of_decide_eq_true (by first | (with_reducible assumption) | assumption)) (by have h_ : (x9_1 : Int) < ((x0_1.length : Int) : Int) := of_decide_eq_true (by first | (with_reducible assumption) | assumption); first | exact h_ | (have e_ := (Kd.R_reads' HO_0.out).1; omega) | (simp; done) | simpa using h_) (seg := [.int .i64 ((rd_T39 x0_1 x9_1).f3)]) (j := 3) hcl38 hcc38 (show 4 ≤ 4 from by decide) (x' := (⟨(rd_T39 t278 x9_1).f0, (rd_T39 t278 x9_1).f1, (rd_T39 t278 x9_1).f2, (rd_T39 x0_1 x9_1).f3⟩ : S39)) (k39_mkM _ _ _ (⟨(rd_T39 t278 x9_1).f0, (rd_T39 t278 x9_1).f1, (rd_T39 t278 x9_1).f2, (rd_T39 x0_1 x9_1).f3⟩ : S39) ) (fun _ hk => hk); have hx38_3 := hcc38 3 _ rfl; (try simp only [show (k39).sz = 4 from rfl, Nat.mul_one, Nat.add_zero] at hx38_3); have hf38_3 := hfr38 3; (try simp only [show (k39).sz = 4 from rfl, Nat.mul_one, Nat.add_zero] at hf38_3); clear hcl38 hcc38 hfr38 hM38) | ((with_reducible refine gate_store (t := 3) (p := 53) rfl ?_); refine store_event (t := 3) (p := 53) (v := ?vo_w39) (w1 := (w37.setCell ⟨go17, (x9_1 : Int).toNat * 4 + 3, none⟩ (.int .i64 ((rd_T39 x0_1 x9_1).f3)))) ?hg ?ho ?hn ?hr ?_; (case ho => rfl); (case hg => rfl); (case hn => rfl); (case hr => first | (go_simp; done) | (go_simp; rfl)); intro w39 hw; have hg : w37.grownBy w39 (some go17) := (by rw [hw]; exact HP38.2); have hp_ : Kd.R k39 39 w39 w0.heap.size (fun k_ => ((P0_ k_ ∨ P1_ k_) ∨ w.heap.size ≤ k_)) (.slice (some ⟨go17, 0, none⟩) x0_1.length co9) y280 := (by rw [hw, Ny280.out]; exact HP38.1); clear HP38; have n0_ := Aside0.mk (hp_); have n1_ := Aside0.mk (Kd.R_over' (v := (.slice (some ⟨go17, 0, none⟩) x0_1.length co9)) (by (with_reducible repeat (first | apply Kd.R_alloc | apply Kd.R_drewN | apply Kd.R_drew)); exact HO_1.out) (Kd.R_typed HO_0.out) (by decide) hg); have n2_ := Aside0.mk ((by rw [hw]; exact below_set (HB.out) GB17.out : Below w0.heap.size w0 w39)); have n3_ := Aside0.mk (Kept.of_grown (S := (fun k_ => P0_ k_ ∨ P1_ k_)) hg (by repeat (first | (with_reducible first | exact HK.out | apply Kept.alloc | apply Kept.drewN | apply Kept.drew) | exact HK.out)) (fun k_ e_ => (HO_0.out.1 k_ e_))); clear HO_0; clear HO_1; clear HB; clear HK; have HO_0 := n0_; have HO_1 := n1_; have HB := n2_; have HK := n3_; clear n0_ n1_ n2_ n3_; clear hg hw hp_; have p20 : 0 ≤ (x9_1 : Int) := of_decide_eq_true (by first | (with_reducible assumption) | assumption); have q20 : (x9_1 : Int) < ((x1_1.length : Int) : Int) := of_decide_eq_true (by first | (with_reducible assumption) | assumption); obtain ⟨hx20_0, hf20_0⟩ := Kd.R_celln false HO_1.out (x9_1 : Int) p20 q20; replace p20 := eq_true p20; replace q20 := eq_true q20; obtain ⟨hy40_, hz40_⟩ := Kd.R_celln false HO_1.out (x9_1 : Int) (of_decide_eq_true (by first | (with_reducible assumption) | assumption)) (of_decide_eq_true (by first | (with_reducible assumption) | assumption)); have HP40 := Kd.R_putg HO_1.out (x9_1 : Int) false) | ((with_reducible refine gate_store (t := 4) (p := 56) rfl ?_); refine store_event (t := 4) (p := 56) (v := ?vo_w41) (w1 := (w39.setCell ⟨go16, (x9_1 : Int).toNat, none⟩ (.bool false))) ?hg ?ho ?hn ?hr ?_; (case ho => rfl); (case hg => rfl); (case hn => rfl); (case hr => first | (go_simp; done) | (go_simp; rfl)); intro w41 hw; have hg : w39.grownBy w41 (some go16) := (by rw [hw]; exact HP40.2); have hp_ : Kd.R Kd.bool 4 w41 w0.heap.size (fun k_ => ((P0_ k_ ∨ P1_ k_) ∨ w.heap.size ≤ k_)) (.slice (some ⟨go16, 0, none⟩) x1_1.length co32) y281 := (by rw [hw, Ny281.out]; exact HP40.1); clear HP40; have n0_ := Aside0.mk (Kd.R_over' (v := (.slice (some ⟨go16, 0, none⟩) x1_1.length co32)) (by (with_reducible repeat (first | apply Kd.R_alloc | apply Kd.R_drewN | apply Kd.R_drew)); exact HO_0.out) (Kd.R_typed HO_1.out) (by decide) hg); have n1_ := Aside0.mk (hp_); have n2_ := Aside0.mk ((by rw [hw]; exact below_set (HB.out) GB16.out : Below w0.heap.size w0 w41)); have n3_ := Aside0.mk (Kept.of_grown (S := (fun k_ => P0_ k_ ∨ P1_ k_)) hg (by repeat (first | (with_reducible first | exact HK.out | apply Kept.alloc | apply Kept.drewN | apply Kept.drew) | exact HK.out)) (fun k_ e_ => (HO_1.out.1 k_ e_))); clear HO_0; clear HO_1; clear HB; clear HK; have HO_0 := n0_; have HO_1 := n1_; have HB := n2_; have HK := n3_; clear n0_ n1_ n2_ n3_; clear hg hw hp_))
         (try simp only [← hl0_1])
         go_roundg k1
         case measure => have := HK1.out; omega
         case rel => exact ⟨(y280), (y281), (wrap64 (x9_1 + 1)), (by first | rfl | (simp; done) | (simp [*]; done)), H', ⟨by have := HK1.out; omega⟩, ⟨by (try simp only [hl0_1]); (with_reducible repeat (first | apply Kd.R_alloc | apply Kd.R_drewN | apply Kd.R_drew)); exact HO_0.out⟩, ⟨by (try simp only [hl0_1]); (with_reducible repeat (first | apply Kd.R_alloc | apply Kd.R_drewN | apply Kd.R_drew)); exact HO_1.out⟩, ⟨by repeat (first | (with_reducible first | exact HK.out | apply Kept.alloc | apply Kept.drewN | apply Kept.drew) | exact HK.out)⟩, ⟨by repeat (first | (with_reducible first | exact HB.out | apply below_alloc | apply pw_below_drewN | apply below_drew1) | exact HB.out)⟩⟩
      ·rw [if_neg c12] at H
       exact absurd H (by simp)
     ·rw [if_neg c11] at H
      exact absurd H (by simp)
    ·rw [if_neg c10] at H
     have c10b0 : decide (x9_1 < (x0_1.length : Int)) = false := decide_eq_false c10
     (try (have c10b7_0 := c10b0; rw [hl0_1] at c10b7_0))
     clear c10
     simp only [Option.some.injEq, Prod.mk.injEq] at H
     obtain ⟨rfl, rfl, rfl⟩ := H
     go_wp2
     go_ret
     exact ⟨by first | rfl | (simp [errW_none, errW_some] <;> rfl) | (simp [*, errW_none, errW_some] <;> rfl), (by first | exact (by (with_reducible repeat (first | apply Kd.R_alloc | apply Kd.R_drewN | apply Kd.R_drew)); exact HO_0.out) | (simp only [hl0_1]; exact (by (with_reducible repeat (first | apply Kd.R_alloc | apply Kd.R_drewN | apply Kd.R_drew)); exact HO_0.out))), (by first | exact (by (with_reducible repeat (first | apply Kd.R_alloc | apply Kd.R_drewN | apply Kd.R_drew)); exact HO_1.out) | (simp only [hl0_1]; exact (by (with_reducible repeat (first | apply Kd.R_alloc | apply Kd.R_drewN | apply Kd.R_drew)); exact HO_1.out))), by repeat (first | (with_reducible first | exact HB.out | apply below_alloc | apply pw_below_drewN | apply below_drew1) | exact HB.out), by repeat (first | (with_reducible first | exact HK.out | apply Kept.alloc | apply Kept.drewN | apply Kept.drew) | exact HK.out)⟩

-- NOT PRINTED: function 20 (demand_ranked)

-- NOT PRINTED: function 11 (demand_Deadline)


end Go.Proofs.Ytffckkjaeekanaa.B
