/- Proved here: what the machine does at calls of the functions that the laws reach is what plain functions of the same names say, or a row of the given statement out of that. No conditions. Written by a program of this session over the printer of the kit. -/
import Derived.Test.YthhaikkicabplaaRXx0
import Derived.Test.YthhaikkicabplaaRXx9
import Derived.Test.YthhaikkicabplaaRXx10
import Derived.Test.YthhaikkicabplaaRXx17
import Derived.Test.YthhaikkicabplaaRXx22
import Derived.Test.YthhaikkicabplaaRXx23
import Derived.Test.YthhaikkicabplaaRXx25
import Derived.Test.YthhaikkicabplaaRXx27
import Derived.Test.YthhaikkicabplaaRXx32
namespace Go.Proofs.YthhaikkicabplaaR.X
open Go.RowKit Go.Proofs.YthhaikkicabplaaRW.PrintWords Go.Proofs.YthhaikkicabplaaRW.PrintLast Go.Proofs.YthhaikkicabplaaRW.PrintMore
attribute [local go_sem] max2_int min2_int max_two min_two max_three min_three max_four min_four   -- for this text's walks alone
set_option linter.unusedVariables false
set_option linter.unusedSimpArgs false

/-! ### tithelaw10_EdfStretch: function 8 -/
mutual
def tithelaw10_EdfStretch.j0 : Nat → List (S43) → Int → List Int → Option Int → Bool → Int → Int → Option Int → Bool → Option (Bool)
 | 0, _, _, _, _, _, _, _, _, _ => none
 | k + 1, x0, x1, x5, x6, x7, x8, x9, x10, x40 => if x40 = true then ((tithelaw10_num.f x6).bind fun t368 => ((tithelaw10_num.f x10).bind fun t369 => (if t368 = t369 then ((tithelaw10_works.f k).bind fun t370 => (some t370)) else (some false)))) else ((titheref10_Missed.f k x0 x5).bind fun bt371 => (if bt371.2 = 0 then ((tithelaw10_some.f k bt371.1).bind fun t375 => (tithelaw10_EdfStretch.j1 k x0 x1 x7 x8 x9 (x7 == t375))) else (tithelaw10_EdfStretch.j1 k x0 x1 x7 x8 x9 true)))
def tithelaw10_EdfStretch.j1 : Nat → List (S43) → Int → Bool → Int → Int → Bool → Option (Bool)
 | 0, _, _, _, _, _, _ => none
 | k + 1, x0, x1, x7, x8, x9, x62 => if x62 = true then (some false) else (if x7 = true then ((tithelaw10_works.f k).bind fun t376 => (some t376)) else ((tithelaw10_items.f k x0).bind fun t377 => ((edf_Demand.f k t377 x8 x9).bind fun bt380 => (if bt380.2.isNone = true then (if bt380.1 > (wrap64 (x9 - x8)) then (if x8 ≥ 0 then (if x9 ≤ x1 then ((tithelaw10_works.f k).bind fun t383 => (some t383)) else (some false)) else (some false)) else (some false)) else (some false)))))
end
def tithelaw10_EdfStretch.f (k : Nat) (l0 : List (S43)) (a1 : Int) : Option (Bool) := (tithelaw10_items.f k l0).bind fun t352 => ((edf_Plan.f k t352 (Int.tmod (wrap64 ((Int.tmod a1 41) + 41)) 41)).bind fun bt355 => ((tithelaw10_items.f k l0).bind fun t359 => ((edf_Feasible.f k t359 (Int.tmod (wrap64 ((Int.tmod a1 41) + 41)) 41)).bind fun bt362 => (if bt355.2.isNone = true then (if bt362.2.2.2.isNone = true then (tithelaw10_EdfStretch.j0 k l0 (Int.tmod (wrap64 ((Int.tmod a1 41) + 41)) 41) bt355.1 none bt362.1 bt362.2.1 bt362.2.2.1 none false) else (tithelaw10_EdfStretch.j0 k l0 (Int.tmod (wrap64 ((Int.tmod a1 41) + 41)) 41) bt355.1 none bt362.1 bt362.2.1 bt362.2.2.1 (some (bt362.2.2.2.getD 0)) true)) else (tithelaw10_EdfStretch.j0 k l0 (Int.tmod (wrap64 ((Int.tmod a1 41) + 41)) 41) bt355.1 (some (bt355.2.getD 0)) bt362.1 bt362.2.1 bt362.2.2.1 bt362.2.2.2 true)))))
theorem tithelaw10_EdfStretch.mono_l : ∀ k, (∀ y0 y1 y2 y3 y4 y5 y6 y7 y8, LeO (tithelaw10_EdfStretch.j0 k y0 y1 y2 y3 y4 y5 y6 y7 y8) (tithelaw10_EdfStretch.j0 (k + 1) y0 y1 y2 y3 y4 y5 y6 y7 y8)) ∧ (∀ y0 y1 y2 y3 y4 y5, LeO (tithelaw10_EdfStretch.j1 k y0 y1 y2 y3 y4 y5) (tithelaw10_EdfStretch.j1 (k + 1) y0 y1 y2 y3 y4 y5))
 | 0 => ⟨fun _ _ _ _ _ _ _ _ _ r h => by simp [tithelaw10_EdfStretch.j0] at h, fun _ _ _ _ _ _ r h => by simp [tithelaw10_EdfStretch.j1] at h⟩
 | k + 1 => by
  obtain ⟨ih0, ih1⟩ := tithelaw10_EdfStretch.mono_l k
  refine ⟨?_, ?_⟩
  ·intro y0 y1 y2 y3 y4 y5 y6 y7 y8
   unfold tithelaw10_EdfStretch.j0
   repeat' first
   | (with_reducible exact ih0 _ _ _ _ _ _ _ _ _)
   | (with_reducible exact ih1 _ _ _ _ _ _)
   | (with_reducible exact edf_Demand.mono _ _ _ _)
   | (with_reducible exact edf_Feasible.mono _ _ _)
   | (with_reducible exact edf_Plan.mono _ _ _)
   | (with_reducible exact tithelaw10_items.mono _ _)
   | (with_reducible exact tithelaw10_some.mono _ _)
   | (with_reducible exact tithelaw10_works.mono _)
   | (with_reducible exact titheref10_Missed.mono _ _ _)
   | (with_reducible exact LeO.refl _)
   | (with_reducible exact LeO.none _)
   | (with_reducible refine LeO.ite ?_ ?_)
   | (with_reducible refine LeO.bind ?_ (fun _ => ?_))
   | exact ih0 _ _ _ _ _ _ _ _ _
   | exact ih1 _ _ _ _ _ _
   | exact edf_Demand.mono _ _ _ _
   | exact edf_Feasible.mono _ _ _
   | exact edf_Plan.mono _ _ _
   | exact tithelaw10_items.mono _ _
   | exact tithelaw10_some.mono _ _
   | exact tithelaw10_works.mono _
   | exact titheref10_Missed.mono _ _ _
   | exact LeO.none _
   | refine LeO.ite ?_ ?_
   | refine LeO.bind ?_ (fun _ => ?_)
  ·intro y0 y1 y2 y3 y4 y5
   unfold tithelaw10_EdfStretch.j1
   repeat' first
   | (with_reducible exact ih0 _ _ _ _ _ _ _ _ _)
   | (with_reducible exact ih1 _ _ _ _ _ _)
   | (with_reducible exact edf_Demand.mono _ _ _ _)
   | (with_reducible exact edf_Feasible.mono _ _ _)
   | (with_reducible exact edf_Plan.mono _ _ _)
   | (with_reducible exact tithelaw10_items.mono _ _)
   | (with_reducible exact tithelaw10_some.mono _ _)
   | (with_reducible exact tithelaw10_works.mono _)
   | (with_reducible exact titheref10_Missed.mono _ _ _)
   | (with_reducible exact LeO.refl _)
   | (with_reducible exact LeO.none _)
   | (with_reducible refine LeO.ite ?_ ?_)
   | (with_reducible refine LeO.bind ?_ (fun _ => ?_))
   | exact ih0 _ _ _ _ _ _ _ _ _
   | exact ih1 _ _ _ _ _ _
   | exact edf_Demand.mono _ _ _ _
   | exact edf_Feasible.mono _ _ _
   | exact edf_Plan.mono _ _ _
   | exact tithelaw10_items.mono _ _
   | exact tithelaw10_some.mono _ _
   | exact tithelaw10_works.mono _
   | exact titheref10_Missed.mono _ _ _
   | exact LeO.none _
   | refine LeO.ite ?_ ?_
   | refine LeO.bind ?_ (fun _ => ?_)
theorem tithelaw10_EdfStretch.mono : ∀ a0 a1 k, LeO (tithelaw10_EdfStretch.f k a0 a1) (tithelaw10_EdfStretch.f (k + 1) a0 a1) := by
 intro a0 a1 k
 obtain ⟨ih0, ih1⟩ := tithelaw10_EdfStretch.mono_l k
 unfold tithelaw10_EdfStretch.f
 repeat' first
   | (with_reducible exact ih0 _ _ _ _ _ _ _ _ _)
   | (with_reducible exact ih1 _ _ _ _ _ _)
   | (with_reducible exact edf_Demand.mono _ _ _ _)
   | (with_reducible exact edf_Feasible.mono _ _ _)
   | (with_reducible exact edf_Plan.mono _ _ _)
   | (with_reducible exact tithelaw10_items.mono _ _)
   | (with_reducible exact tithelaw10_some.mono _ _)
   | (with_reducible exact tithelaw10_works.mono _)
   | (with_reducible exact titheref10_Missed.mono _ _ _)
   | (with_reducible exact LeO.refl _)
   | (with_reducible exact LeO.none _)
   | (with_reducible refine LeO.ite ?_ ?_)
   | (with_reducible refine LeO.bind ?_ (fun _ => ?_))
   | exact ih0 _ _ _ _ _ _ _ _ _
   | exact ih1 _ _ _ _ _ _
   | exact edf_Demand.mono _ _ _ _
   | exact edf_Feasible.mono _ _ _
   | exact edf_Plan.mono _ _ _
   | exact tithelaw10_items.mono _ _
   | exact tithelaw10_some.mono _ _
   | exact tithelaw10_works.mono _
   | exact titheref10_Missed.mono _ _ _
   | exact LeO.none _
   | refine LeO.ite ?_ ?_
   | refine LeO.bind ?_ (fun _ => ?_)
set_option maxHeartbeats 8000000 in
set_option maxRecDepth 100000 in
theorem tithelaw10_EdfStretch.calls (k : Nat) (A0 : Option Addr) (c0 : Nat) (l0 : List (S43)) (a1 : Int) (r : Bool) (w : World) (hr0 : Kd.C k43 w A0 l0.length l0) (hc0 : l0.length ≤ c0) (h : tithelaw10_EdfStretch.f k l0 a1 = some r) :
  Calls Try.prog 8 #[.slice A0 l0.length c0, .int .i64 a1] w fun e w' => e = .returned (.bool r) ∧ Below w.heap.size w w' := by
 have hu25 := Try.underlying25
 have hu66 := Try.underlying66
 have HR0 := Aside0.mk hr0
 have HC0 := Aside0.mk hc0
 clear hr0 hc0
 have HB := Aside0.mk (Below.refl w.heap.size w)
 have H : ((tithelaw10_items.f k l0).bind fun t352 => ((edf_Plan.f k t352 (Int.tmod (wrap64 ((Int.tmod a1 41) + 41)) 41)).bind fun bt355 => ((tithelaw10_items.f k l0).bind fun t359 => ((edf_Feasible.f k t359 (Int.tmod (wrap64 ((Int.tmod a1 41) + 41)) 41)).bind fun bt362 => (if bt355.2.isNone = true then (if bt362.2.2.2.isNone = true then (tithelaw10_EdfStretch.j0 k l0 (Int.tmod (wrap64 ((Int.tmod a1 41) + 41)) 41) bt355.1 none bt362.1 bt362.2.1 bt362.2.2.1 none false) else (tithelaw10_EdfStretch.j0 k l0 (Int.tmod (wrap64 ((Int.tmod a1 41) + 41)) 41) bt355.1 none bt362.1 bt362.2.1 bt362.2.2.1 (some (bt362.2.2.2.getD 0)) true)) else (tithelaw10_EdfStretch.j0 k l0 (Int.tmod (wrap64 ((Int.tmod a1 41) + 41)) 41) bt355.1 (some (bt355.2.getD 0)) bt362.1 bt362.2.1 bt362.2.2.1 bt362.2.2.2 true)))))) = some r := h
 clear h
 replace H := Option.bind_eq_some_iff.mp H
 obtain ⟨t352, A30, H⟩ := H
 replace H : ((edf_Plan.f k t352 (Int.tmod (wrap64 ((Int.tmod a1 41) + 41)) 41)).bind fun bt355 => ((tithelaw10_items.f k l0).bind fun t359 => ((edf_Feasible.f k t359 (Int.tmod (wrap64 ((Int.tmod a1 41) + 41)) 41)).bind fun bt362 => (if bt355.2.isNone = true then (if bt362.2.2.2.isNone = true then (tithelaw10_EdfStretch.j0 k l0 (Int.tmod (wrap64 ((Int.tmod a1 41) + 41)) 41) bt355.1 none bt362.1 bt362.2.1 bt362.2.2.1 none false) else (tithelaw10_EdfStretch.j0 k l0 (Int.tmod (wrap64 ((Int.tmod a1 41) + 41)) 41) bt355.1 none bt362.1 bt362.2.1 bt362.2.2.1 (some (bt362.2.2.2.getD 0)) true)) else (tithelaw10_EdfStretch.j0 k l0 (Int.tmod (wrap64 ((Int.tmod a1 41) + 41)) 41) bt355.1 (some (bt355.2.getD 0)) bt362.1 bt362.2.1 bt362.2.2.1 bt362.2.2.2 true))))) = some r := H
 have A3 := Aside0.mk A30
 clear A30
 replace H := Option.bind_eq_some_iff.mp H
 obtain ⟨⟨t355, t356⟩, A40, H⟩ := H
 replace H : ((tithelaw10_items.f k l0).bind fun t359 => ((edf_Feasible.f k t359 (Int.tmod (wrap64 ((Int.tmod a1 41) + 41)) 41)).bind fun bt362 => (if t356.isNone = true then (if bt362.2.2.2.isNone = true then (tithelaw10_EdfStretch.j0 k l0 (Int.tmod (wrap64 ((Int.tmod a1 41) + 41)) 41) t355 none bt362.1 bt362.2.1 bt362.2.2.1 none false) else (tithelaw10_EdfStretch.j0 k l0 (Int.tmod (wrap64 ((Int.tmod a1 41) + 41)) 41) t355 none bt362.1 bt362.2.1 bt362.2.2.1 (some (bt362.2.2.2.getD 0)) true)) else (tithelaw10_EdfStretch.j0 k l0 (Int.tmod (wrap64 ((Int.tmod a1 41) + 41)) 41) t355 (some (t356.getD 0)) bt362.1 bt362.2.1 bt362.2.2.1 bt362.2.2.2 true)))) = some r := H
 have A4 := Aside0.mk A40
 clear A40
 replace H := Option.bind_eq_some_iff.mp H
 obtain ⟨t359, A50, H⟩ := H
 replace H : ((edf_Feasible.f k t359 (Int.tmod (wrap64 ((Int.tmod a1 41) + 41)) 41)).bind fun bt362 => (if t356.isNone = true then (if bt362.2.2.2.isNone = true then (tithelaw10_EdfStretch.j0 k l0 (Int.tmod (wrap64 ((Int.tmod a1 41) + 41)) 41) t355 none bt362.1 bt362.2.1 bt362.2.2.1 none false) else (tithelaw10_EdfStretch.j0 k l0 (Int.tmod (wrap64 ((Int.tmod a1 41) + 41)) 41) t355 none bt362.1 bt362.2.1 bt362.2.2.1 (some (bt362.2.2.2.getD 0)) true)) else (tithelaw10_EdfStretch.j0 k l0 (Int.tmod (wrap64 ((Int.tmod a1 41) + 41)) 41) t355 (some (t356.getD 0)) bt362.1 bt362.2.1 bt362.2.2.1 bt362.2.2.2 true))) = some r := H
 have A5 := Aside0.mk A50
 clear A50
 replace H := Option.bind_eq_some_iff.mp H
 obtain ⟨⟨t362, t363, t364, t365⟩, A60, H⟩ := H
 replace H : (if t356.isNone = true then (if t365.isNone = true then (tithelaw10_EdfStretch.j0 k l0 (Int.tmod (wrap64 ((Int.tmod a1 41) + 41)) 41) t355 none t362 t363 t364 none false) else (tithelaw10_EdfStretch.j0 k l0 (Int.tmod (wrap64 ((Int.tmod a1 41) + 41)) 41) t355 none t362 t363 t364 (some (t365.getD 0)) true)) else (tithelaw10_EdfStretch.j0 k l0 (Int.tmod (wrap64 ((Int.tmod a1 41) + 41)) 41) t355 (some (t356.getD 0)) t362 t363 t364 t365 true)) = some r := H
 have A6 := Aside0.mk A60
 clear A60
 have HC7 := Aside0.mk H
 clear H
 go_enter Try.func8, Try.ntmps8
 go_upto_region 4 with (first | ((with_reducible refine gate_callee (f := 13) rfl ?_); refine goesL_ (some 21) rfl rfl Try.func13 (by kernel_rfl) rfl #[.slice A0 l0.length c0] rfl (by (try simp only [List.map_toArray, List.map_cons, List.map_nil]); first | done | rfl | (simp only [List.length_drop, List.length_take]; rfl)) ?_; (with_reducible refine (tithelaw10_items.calls k _ _ l0 t352 _ ?side1 ?side2 A3.out).mono ?_); (case side1 => repeat (first | exact HR0.out | (with_reducible refine Kd.C_alloc ?_ _) | (with_reducible refine Kd.C_drewN ?_ _) | (with_reducible refine Kd.C_drew ?_))); (case side2 => exact HC0.out); rintro e w8 ⟨v353, rfl, ho0, hb⟩; refine ⟨_, rfl, ?_⟩; have n0_ := Aside0.mk (Kd.R_lower ho0 (below_size (by repeat (first | (with_reducible first | exact HB.out | apply below_alloc | apply pw_below_drewN | apply below_drew1) | exact HB.out)))); have n1_ := Aside0.mk (below_step (by repeat (first | (with_reducible first | exact HB.out | apply below_alloc | apply pw_below_drewN | apply below_drew1) | exact HB.out)) hb); clear HB; have HO354 := n0_; have HB := n1_; clear n0_ n1_; (try clear hb); (try clear hb2); (try clear hk); (try clear hi); (try clear ho0); obtain ⟨Ao9, co9, eo9⟩ := Kd.R_slice HO354.out; subst eo9) | ((with_reducible refine gate_callee (f := 12) rfl ?_); refine goesL_ (some 23) rfl rfl Try.func12 (by kernel_rfl) rfl #[.slice Ao9 t352.length co9, .int .i64 (Int.tmod (wrap64 ((Int.tmod a1 41) + 41)) 41)] rfl (by (try simp only [List.map_toArray, List.map_cons, List.map_nil]); first | done | rfl | (simp only [List.length_drop, List.length_take]; rfl)) ?_; (with_reducible refine (edf_Plan.calls k _ _ t352 (Int.tmod (wrap64 ((Int.tmod a1 41) + 41)) 41) t355 t356 _ ?side1 ?side2 A4.out).mono ?_); (case side1 => repeat (first | exact (Kd.R_reads' HO354.out).2.2 | (with_reducible refine Kd.C_alloc ?_ _) | (with_reducible refine Kd.C_drewN ?_ _) | (with_reducible refine Kd.C_drew ?_))); (case side2 => exact (Kd.R_reads' HO354.out).2.1); rintro e w10 ⟨v357, rfl, ho0, hb⟩; refine ⟨_, rfl, ?_⟩; have n0_ := Aside0.mk (Kd.R_below (by (with_reducible repeat (first | apply Kd.R_alloc | apply Kd.R_drewN | apply Kd.R_drew)); exact HO354.out) hb); have n1_ := Aside0.mk (Kd.R_lower ho0 (below_size (by repeat (first | (with_reducible first | exact HB.out | apply below_alloc | apply pw_below_drewN | apply below_drew1) | exact HB.out)))); have n2_ := Aside0.mk (below_step (by repeat (first | (with_reducible first | exact HB.out | apply below_alloc | apply pw_below_drewN | apply below_drew1) | exact HB.out)) hb); clear HO354; clear HB; have HO354 := n0_; have HO358 := n1_; have HB := n2_; clear n0_ n1_ n2_; (try clear hb); (try clear hb2); (try clear hk); (try clear hi); (try clear ho0); (try simp only [errW_none, errW_some])) | ((with_reducible refine gate_callee (f := 13) rfl ?_); refine goesL_ (some 28) rfl rfl Try.func13 (by kernel_rfl) rfl #[.slice A0 l0.length c0] rfl (by (try simp only [List.map_toArray, List.map_cons, List.map_nil]); first | done | rfl | (simp only [List.length_drop, List.length_take]; rfl)) ?_; (with_reducible refine (tithelaw10_items.calls k _ _ l0 t359 _ ?side1 ?side2 A5.out).mono ?_); (case side1 => repeat (first | exact (Kd.C_below HR0.out HB.out) | (with_reducible refine Kd.C_alloc ?_ _) | (with_reducible refine Kd.C_drewN ?_ _) | (with_reducible refine Kd.C_drew ?_))); (case side2 => exact HC0.out); rintro e w11 ⟨v360, rfl, ho0, hb⟩; refine ⟨_, rfl, ?_⟩; have n0_ := Aside0.mk (Kd.R_elder' (by (with_reducible repeat (first | apply Kd.R_alloc | apply Kd.R_drewN | apply Kd.R_drew)); exact HO354.out) (Kd.R_base ho0) hb); have n1_ := Aside0.mk (Kd.R_below (by (with_reducible repeat (first | apply Kd.R_alloc | apply Kd.R_drewN | apply Kd.R_drew)); exact HO358.out) hb); have n2_ := Aside0.mk (Kd.R_lower (Kd.R_new' ho0 (Kd.R_lt (by (with_reducible repeat (first | apply Kd.R_alloc | apply Kd.R_drewN | apply Kd.R_drew)); exact HO354.out))) (below_size (by repeat (first | (with_reducible first | exact HB.out | apply below_alloc | apply pw_below_drewN | apply below_drew1) | exact HB.out)))); have n3_ := Aside0.mk (below_step (by repeat (first | (with_reducible first | exact HB.out | apply below_alloc | apply pw_below_drewN | apply below_drew1) | exact HB.out)) hb); clear HO354; clear HO358; clear HB; have HO354 := n0_; have HO358 := n1_; have HO361 := n2_; have HB := n3_; clear n0_ n1_ n2_ n3_; (try clear hb); (try clear hb2); (try clear hk); (try clear hi); (try clear ho0); obtain ⟨Ao12, co12, eo12⟩ := Kd.R_slice HO361.out; subst eo12) | ((with_reducible refine gate_callee (f := 25) rfl ?_); refine goesL_ (some 30) rfl rfl Try.func25 (by kernel_rfl) rfl #[.slice Ao12 t359.length co12, .int .i64 (Int.tmod (wrap64 ((Int.tmod a1 41) + 41)) 41)] rfl (by (try simp only [List.map_toArray, List.map_cons, List.map_nil]); first | done | rfl | (simp only [List.length_drop, List.length_take]; rfl)) ?_; (with_reducible refine (edf_Feasible.calls k _ _ t359 (Int.tmod (wrap64 ((Int.tmod a1 41) + 41)) 41) t362 t363 t364 t365 _ ?side1 ?side2 A6.out).mono ?_); (case side1 => repeat (first | exact (Kd.R_reads' HO361.out).2.2 | (with_reducible refine Kd.C_alloc ?_ _) | (with_reducible refine Kd.C_drewN ?_ _) | (with_reducible refine Kd.C_drew ?_))); (case side2 => exact (Kd.R_reads' HO361.out).2.1); rintro e w13 ⟨rfl, hb⟩; refine ⟨_, rfl, ?_⟩; have n0_ := Aside0.mk (Kd.R_below (by (with_reducible repeat (first | apply Kd.R_alloc | apply Kd.R_drewN | apply Kd.R_drew)); exact HO354.out) hb); have n1_ := Aside0.mk (Kd.R_below (by (with_reducible repeat (first | apply Kd.R_alloc | apply Kd.R_drewN | apply Kd.R_drew)); exact HO358.out) hb); have n2_ := Aside0.mk (Kd.R_below (by (with_reducible repeat (first | apply Kd.R_alloc | apply Kd.R_drewN | apply Kd.R_drew)); exact HO361.out) hb); have n3_ := Aside0.mk (below_step (by repeat (first | (with_reducible first | exact HB.out | apply below_alloc | apply pw_below_drewN | apply below_drew1) | exact HB.out)) hb); clear HO354; clear HO358; clear HO361; clear HB; have HO354 := n0_; have HO358 := n1_; have HO361 := n2_; have HB := n3_; clear n0_ n1_ n2_ n3_; (try clear hb); (try clear hb2); (try clear hk); (try clear hi); (try simp only [errW_none, errW_some])))
 (try simp only [Act.put, List.setIfInBounds_toArray, List.set_cons_zero, List.set_cons_succ])
 go_cut [40] (fun v40 wc => ∃ (kq : Nat) (x40_6 : Bool), v40 = .bool x40_6 ∧ Aside0 (tithelaw10_EdfStretch.j0 kq l0 (Int.tmod (wrap64 ((Int.tmod a1 41) + 41)) 41) t355 t356 t362 t363 t364 t365 x40_6 = some r) ∧ Aside0 (kq ≤ k) ∧ Aside0 (Kd.R (Kd.int .i64) 3 wc w.heap.size (fun _ => True) v357 t355) ∧ Aside0 (Below w.heap.size w wc))
 case first =>
  have H := HC7.out
  clear HC7
  rcases t356 with _ | q366
  ·have H1 : (if t365.isNone = true then (tithelaw10_EdfStretch.j0 k l0 (Int.tmod (wrap64 ((Int.tmod a1 41) + 41)) 41) t355 none t362 t363 t364 none false) else (tithelaw10_EdfStretch.j0 k l0 (Int.tmod (wrap64 ((Int.tmod a1 41) + 41)) 41) t355 none t362 t363 t364 (some (t365.getD 0)) true)) = some r := by rw [if_pos (show (none : Option Int).isNone = true by rfl)] at H; exact H
   clear H
   have H := H1
   clear H1
   try simp only [errW_none, errW_some]
   rcases t365 with _ | q367
   ·have H1 : (tithelaw10_EdfStretch.j0 k l0 (Int.tmod (wrap64 ((Int.tmod a1 41) + 41)) 41) t355 none t362 t363 t364 none false) = some r := by rw [if_pos (show (none : Option Int).isNone = true by rfl)] at H; exact H
    clear H
    have H := H1
    clear H1
    try simp only [errW_none, errW_some]
    have H' := Aside0.mk H
    clear H
    go_wp2
    go_meet
    case rel => exact ⟨_, (false), (by first | rfl | (simp; done) | (simp [*]; done)), H', ⟨by first | omega | exact Nat.le_refl _⟩, ⟨by (with_reducible repeat (first | apply Kd.R_alloc | apply Kd.R_drewN | apply Kd.R_drew)); exact HO358.out⟩, ⟨by repeat (first | (with_reducible first | exact HB.out | apply below_alloc | apply pw_below_drewN | apply below_drew1) | exact HB.out)⟩⟩
   ·have H1 : (tithelaw10_EdfStretch.j0 k l0 (Int.tmod (wrap64 ((Int.tmod a1 41) + 41)) 41) t355 none t362 t363 t364 (some q367) true) = some r := by rw [if_neg (show ¬ (some q367).isNone = true by simp)] at H; exact H
    clear H
    have H := H1
    clear H1
    try simp only [errW_none, errW_some]
    have H' := Aside0.mk H
    clear H
    go_wp2
    go_meet
    case rel => exact ⟨_, (true), (by first | rfl | (simp; done) | (simp [*]; done)), H', ⟨by first | omega | exact Nat.le_refl _⟩, ⟨by (with_reducible repeat (first | apply Kd.R_alloc | apply Kd.R_drewN | apply Kd.R_drew)); exact HO358.out⟩, ⟨by repeat (first | (with_reducible first | exact HB.out | apply below_alloc | apply pw_below_drewN | apply below_drew1) | exact HB.out)⟩⟩
  ·have H1 : (tithelaw10_EdfStretch.j0 k l0 (Int.tmod (wrap64 ((Int.tmod a1 41) + 41)) 41) t355 (some q366) t362 t363 t364 t365 true) = some r := by rw [if_neg (show ¬ (some q366).isNone = true by simp)] at H; exact H
   clear H
   have H := H1
   clear H1
   try simp only [errW_none, errW_some]
   have H' := Aside0.mk H
   clear H
   go_wp2
   go_meet
   case rel => exact ⟨_, (true), (by first | rfl | (simp; done) | (simp [*]; done)), H', ⟨by first | omega | exact Nat.le_refl _⟩, ⟨by (with_reducible repeat (first | apply Kd.R_alloc | apply Kd.R_drewN | apply Kd.R_drew)); exact HO358.out⟩, ⟨by repeat (first | (with_reducible first | exact HB.out | apply below_alloc | apply pw_below_drewN | apply below_drew1) | exact HB.out)⟩⟩
 case rest =>
  clear HC7
  try clear c1
  try clear c2
  try clear p2
  try clear q3
  try clear p6
  try clear c8
  try clear c12
  try clear c13
  try clear q366
  try clear q367
  obtain ⟨kq, x40_6, rfl, HA, HJ6, HO_5, HB⟩ := hcut
  cases kq with
  | zero => exact absurd HA.out (by simp [tithelaw10_EdfStretch.j0])
  | succ kj6 =>
   have H := HA.out
   clear HA
   simp only [tithelaw10_EdfStretch.j0] at H
   by_cases c14 : x40_6 = true
   ·subst c14
    have H1 : ((tithelaw10_num.f t356).bind fun t368 => ((tithelaw10_num.f t365).bind fun t369 => (if t368 = t369 then ((tithelaw10_works.f kj6).bind fun t370 => (some t370)) else (some false)))) = some r := by rw [if_pos rfl] at H; exact H
    clear H
    have H := H1
    clear H1
    replace H := Option.bind_eq_some_iff.mp H
    obtain ⟨t368, A150, H⟩ := H
    replace H : ((tithelaw10_num.f t365).bind fun t369 => (if t368 = t369 then ((tithelaw10_works.f kj6).bind fun t370 => (some t370)) else (some false))) = some r := H
    have A15 := Aside0.mk A150
    clear A150
    replace H := Option.bind_eq_some_iff.mp H
    obtain ⟨t369, A160, H⟩ := H
    replace H : (if t368 = t369 then ((tithelaw10_works.f kj6).bind fun t370 => (some t370)) else (some false)) = some r := H
    have A16 := Aside0.mk A160
    clear A160
    by_cases c17 : t368 = t369
    ·rw [if_pos c17] at H
     have c17b0 : (t368 == t369) = true := beq_iff_eq.mpr c17
     have c17b1 : (t368 != t369) = false := bne_eq_false_iff_eq.mpr c17
     clear c17
     replace H := Option.bind_eq_some_iff.mp H
     obtain ⟨t370, A180, H⟩ := H
     replace H : (some t370) = some r := H
     have A18 := Aside0.mk A180
     clear A180
     obtain rfl := Option.some.inj H
     have CA15 := fun W => tithelaw10_num.calls t356 t368 W A15.out
     try simp only [errW_none, errW_some] at CA15
     go_wp2_with (first | (go_at_call 16; (with_reducible refine (CA15 _).mono ?_); rintro e w' ⟨rfl, ⟨nd, rfl⟩⟩; have CA16 := fun W => tithelaw10_num.calls t365 t369 W A16.out; try simp only [errW_none, errW_some] at CA16) | (go_at_call 16; (with_reducible refine (CA16 _).mono ?_); rintro e w' ⟨rfl, ⟨nd, rfl⟩⟩) | (go_at_call 19; (with_reducible refine (tithelaw10_works.calls kj6  t370 _ A18.out).mono ?_); rintro e w19 ⟨rfl, hb⟩; have n0_ := Aside0.mk (Kd.R_below (by (with_reducible repeat (first | apply Kd.R_alloc | apply Kd.R_drewN | apply Kd.R_drew)); exact HO_5.out) hb); have n1_ := Aside0.mk (below_step (by repeat (first | (with_reducible first | exact HB.out | apply below_alloc | apply pw_below_drewN | apply below_drew1) | exact HB.out)) hb); clear HO_5; clear HB; have HO_5 := n0_; have HB := n1_; clear n0_ n1_; (try clear hb); (try clear hb2); (try clear hk); (try clear hi)))
     go_ret
     exact ⟨by first | rfl | (simp [errW_none, errW_some] <;> rfl) | (simp [*, errW_none, errW_some] <;> rfl), by repeat (first | (with_reducible first | exact HB.out | apply below_alloc | apply pw_below_drewN | apply below_drew1) | exact HB.out)⟩
    ·rw [if_neg c17] at H
     have c17b0 : (t368 == t369) = false := beq_eq_false_iff_ne.mpr c17
     have c17b1 : (t368 != t369) = true := bne_iff_ne.mpr c17
     obtain rfl := Option.some.inj H
     have CA15 := fun W => tithelaw10_num.calls t356 t368 W A15.out
     try simp only [errW_none, errW_some] at CA15
     go_wp2_with (first | (go_at_call 16; (with_reducible refine (CA15 _).mono ?_); rintro e w' ⟨rfl, ⟨nd, rfl⟩⟩; have CA16 := fun W => tithelaw10_num.calls t365 t369 W A16.out; try simp only [errW_none, errW_some] at CA16) | (go_at_call 16; (with_reducible refine (CA16 _).mono ?_); rintro e w' ⟨rfl, ⟨nd, rfl⟩⟩))
     go_ret
     exact ⟨by first | rfl | (simp [errW_none, errW_some] <;> rfl) | (simp [*, errW_none, errW_some] <;> rfl), by repeat (first | (with_reducible first | exact HB.out | apply below_alloc | apply pw_below_drewN | apply below_drew1) | exact HB.out)⟩
   ·replace c14 := Bool.eq_false_iff.mpr c14
    subst c14
    have H1 : ((titheref10_Missed.f kj6 l0 t355).bind fun bt371 => (if bt371.2 = 0 then ((tithelaw10_some.f kj6 bt371.1).bind fun t375 => (tithelaw10_EdfStretch.j1 kj6 l0 (Int.tmod (wrap64 ((Int.tmod a1 41) + 41)) 41) t362 t363 t364 (t362 == t375))) else (tithelaw10_EdfStretch.j1 kj6 l0 (Int.tmod (wrap64 ((Int.tmod a1 41) + 41)) 41) t362 t363 t364 true))) = some r := by rw [if_neg (show ¬ (false = true) by decide)] at H; exact H
    clear H
    have H := H1
    clear H1
    replace H := Option.bind_eq_some_iff.mp H
    obtain ⟨⟨t371, t372⟩, A200, H⟩ := H
    replace H : (if t372 = 0 then ((tithelaw10_some.f kj6 t371).bind fun t375 => (tithelaw10_EdfStretch.j1 kj6 l0 (Int.tmod (wrap64 ((Int.tmod a1 41) + 41)) 41) t362 t363 t364 (t362 == t375))) else (tithelaw10_EdfStretch.j1 kj6 l0 (Int.tmod (wrap64 ((Int.tmod a1 41) + 41)) 41) t362 t363 t364 true)) = some r := H
    have A20 := Aside0.mk A200
    clear A200
    have HC21 := Aside0.mk H
    clear H
    obtain ⟨Ao22, co22, eo22⟩ := Kd.R_slice HO_5.out
    subst eo22
    go_upto_region 7 with (first | ((with_reducible refine gate_callee (f := 21) rfl ?_); refine goesL_ (some 52) rfl rfl Try.func21 (by kernel_rfl) rfl #[.slice A0 l0.length c0, .slice Ao22 t355.length co22] rfl (by (try simp only [List.map_toArray, List.map_cons, List.map_nil]); first | done | rfl | (simp only [List.length_drop, List.length_take]; rfl)) ?_; (with_reducible refine (titheref10_Missed.calls kj6 _ _ l0 _ _ t355 t371 t372 _ ?side1 ?side2 ?side3 ?side4 A20.out).mono ?_); (case side1 => repeat (first | exact (Kd.C_below HR0.out HB.out) | (with_reducible refine Kd.C_alloc ?_ _) | (with_reducible refine Kd.C_drewN ?_ _) | (with_reducible refine Kd.C_drew ?_))); (case side2 => exact HC0.out); (case side3 => repeat (first | exact (Kd.R_reads' HO_5.out).2.2 | (with_reducible refine Kd.C_alloc ?_ _) | (with_reducible refine Kd.C_drewN ?_ _) | (with_reducible refine Kd.C_drew ?_))); (case side4 => exact (Kd.R_reads' HO_5.out).2.1); rintro e w23 ⟨v373, rfl, ho0, hb⟩; refine ⟨_, rfl, ?_⟩; have n0_ := Aside0.mk (Kd.R_elder' (by (with_reducible repeat (first | apply Kd.R_alloc | apply Kd.R_drewN | apply Kd.R_drew)); exact HO_5.out) (Kd.R_base ho0) hb); have n1_ := Aside0.mk (Kd.R_lower (Kd.R_new' ho0 (Kd.R_lt (by (with_reducible repeat (first | apply Kd.R_alloc | apply Kd.R_drewN | apply Kd.R_drew)); exact HO_5.out))) (below_size (by repeat (first | (with_reducible first | exact HB.out | apply below_alloc | apply pw_below_drewN | apply below_drew1) | exact HB.out)))); have n2_ := Aside0.mk (below_step (by repeat (first | (with_reducible first | exact HB.out | apply below_alloc | apply pw_below_drewN | apply below_drew1) | exact HB.out)) hb); clear HO_5; clear HB; have HO_5 := n0_; have HO374 := n1_; have HB := n2_; clear n0_ n1_ n2_; (try clear hb); (try clear hb2); (try clear hk); (try clear hi); (try clear ho0)))
    (try simp only [Act.put, List.setIfInBounds_toArray, List.set_cons_zero, List.set_cons_succ])
    go_cut [62] (fun v62 wc => ∃ (kq : Nat) (x62_20 : Bool), v62 = .bool x62_20 ∧ Aside0 (tithelaw10_EdfStretch.j1 kq l0 (Int.tmod (wrap64 ((Int.tmod a1 41) + 41)) 41) t362 t363 t364 x62_20 = some r) ∧ Aside0 (kq ≤ kj6) ∧ Aside0 (Below w.heap.size w wc))
    case first =>
     have H := HC21.out
     clear HC21
     by_cases c24 : t372 = 0
     ·rw [if_pos c24] at H
      have c24b0 : (t372 == 0) = true := beq_iff_eq.mpr c24
      have c24b1 : (t372 != 0) = false := bne_eq_false_iff_eq.mpr c24
      clear c24
      (first | rw [c24b0] | (simp only [i64_w, i32_w]; rw [c24b0]) | skip)
      replace H := Option.bind_eq_some_iff.mp H
      obtain ⟨t375, A250, H⟩ := H
      replace H : (tithelaw10_EdfStretch.j1 kj6 l0 (Int.tmod (wrap64 ((Int.tmod a1 41) + 41)) 41) t362 t363 t364 (t362 == t375)) = some r := H
      have A25 := Aside0.mk A250
      clear A250
      have H' := Aside0.mk H
      clear H
      obtain ⟨Ao26, co26, eo26⟩ := Kd.R_slice HO374.out
      subst eo26
      go_wp2_with (first | (go_at_call 22; (with_reducible refine (tithelaw10_some.calls kj6 _ _ t371 t375 _ ?side1 ?side2 A25.out).mono ?_); (case side1 => repeat (first | exact (Kd.R_reads' HO374.out).2.2 | (with_reducible refine Kd.C_alloc ?_ _) | (with_reducible refine Kd.C_drewN ?_ _) | (with_reducible refine Kd.C_drew ?_))); (case side2 => exact (Kd.R_reads' HO374.out).2.1); rintro e w' ⟨rfl, ⟨nd, rfl⟩⟩))
      go_meet
      case rel => exact ⟨_, ((t362 == t375)), (by first | rfl | (simp; done) | (simp [*]; done)), H', ⟨by have := HJ6.out; first | omega | exact Nat.le_refl _⟩, ⟨by repeat (first | (with_reducible first | exact HB.out | apply below_alloc | apply pw_below_drewN | apply below_drew1) | exact HB.out)⟩⟩
     ·rw [if_neg c24] at H
      have c24b0 : (t372 == 0) = false := beq_eq_false_iff_ne.mpr c24
      have c24b1 : (t372 != 0) = true := bne_iff_ne.mpr c24
      (first | rw [c24b0] | (simp only [i64_w, i32_w]; rw [c24b0]) | skip)
      have H' := Aside0.mk H
      clear H
      go_wp2
      go_meet
      case rel => exact ⟨_, (true), (by first | rfl | (simp; done) | (simp [*]; done)), H', ⟨by have := HJ6.out; first | omega | exact Nat.le_refl _⟩, ⟨by repeat (first | (with_reducible first | exact HB.out | apply below_alloc | apply pw_below_drewN | apply below_drew1) | exact HB.out)⟩⟩
    case rest =>
     clear HC21
     try clear c1
     try clear c2
     try clear p2
     try clear q3
     try clear p6
     try clear c8
     try clear c12
     try clear c13
     try clear c14
     try clear c17
     try clear c17b0
     try clear c17b1
     try clear c21
     try clear c24
     try clear c24b0
     try clear c24b1
     try clear c25
     try clear p2
     try clear p6
     try clear q3
     try clear q366
     try clear q367
     obtain ⟨kq, x62_20, rfl, HA, HJ20, HB⟩ := hcut
     cases kq with
     | zero => exact absurd HA.out (by simp [tithelaw10_EdfStretch.j1])
     | succ kj20 =>
      have H := HA.out
      clear HA
      simp only [tithelaw10_EdfStretch.j1] at H
      by_cases c27 : x62_20 = true
      ·subst c27
       have H1 : (some false) = some r := by rw [if_pos rfl] at H; exact H
       clear H
       have H := H1
       clear H1
       obtain rfl := Option.some.inj H
       go_wp2
       go_ret
       exact ⟨by first | rfl | (simp [errW_none, errW_some] <;> rfl) | (simp [*, errW_none, errW_some] <;> rfl), by repeat (first | (with_reducible first | exact HB.out | apply below_alloc | apply pw_below_drewN | apply below_drew1) | exact HB.out)⟩
      ·replace c27 := Bool.eq_false_iff.mpr c27
       subst c27
       have H1 : (if t362 = true then ((tithelaw10_works.f kj20).bind fun t376 => (some t376)) else ((tithelaw10_items.f kj20 l0).bind fun t377 => ((edf_Demand.f kj20 t377 t363 t364).bind fun bt380 => (if bt380.2.isNone = true then (if bt380.1 > (wrap64 (t364 - t363)) then (if t363 ≥ 0 then (if t364 ≤ (Int.tmod (wrap64 ((Int.tmod a1 41) + 41)) 41) then ((tithelaw10_works.f kj20).bind fun t383 => (some t383)) else (some false)) else (some false)) else (some false)) else (some false))))) = some r := by rw [if_neg (show ¬ (false = true) by decide)] at H; exact H
       clear H
       have H := H1
       clear H1
       by_cases c28 : t362 = true
       ·subst c28
        have H1 : ((tithelaw10_works.f kj20).bind fun t376 => (some t376)) = some r := by rw [if_pos rfl] at H; exact H
        clear H
        have H := H1
        clear H1
        replace H := Option.bind_eq_some_iff.mp H
        obtain ⟨t376, A290, H⟩ := H
        replace H : (some t376) = some r := H
        have A29 := Aside0.mk A290
        clear A290
        obtain rfl := Option.some.inj H
        go_wp2_with (first | ((with_reducible refine gate_callee (f := 19) rfl ?_); refine goesL_ (some 64) rfl rfl Try.func19 (by kernel_rfl) rfl #[] rfl (by (try simp only [List.map_toArray, List.map_cons, List.map_nil]); first | done | rfl | (simp only [List.length_drop, List.length_take]; rfl)) ?_; (with_reducible refine (tithelaw10_works.calls kj20  t376 _ A29.out).mono ?_); rintro e w30 ⟨rfl, hb⟩; refine ⟨_, rfl, ?_⟩; have n0_ := Aside0.mk (below_step (by repeat (first | (with_reducible first | exact HB.out | apply below_alloc | apply pw_below_drewN | apply below_drew1) | exact HB.out)) hb); clear HB; have HB := n0_; clear n0_; (try clear hb); (try clear hb2); (try clear hk); (try clear hi)))
        go_ret
        exact ⟨by first | rfl | (simp [errW_none, errW_some] <;> rfl) | (simp [*, errW_none, errW_some] <;> rfl), by repeat (first | (with_reducible first | exact HB.out | apply below_alloc | apply pw_below_drewN | apply below_drew1) | exact HB.out)⟩
       ·replace c28 := Bool.eq_false_iff.mpr c28
        subst c28
        have H1 : ((tithelaw10_items.f kj20 l0).bind fun t377 => ((edf_Demand.f kj20 t377 t363 t364).bind fun bt380 => (if bt380.2.isNone = true then (if bt380.1 > (wrap64 (t364 - t363)) then (if t363 ≥ 0 then (if t364 ≤ (Int.tmod (wrap64 ((Int.tmod a1 41) + 41)) 41) then ((tithelaw10_works.f kj20).bind fun t383 => (some t383)) else (some false)) else (some false)) else (some false)) else (some false)))) = some r := by rw [if_neg (show ¬ (false = true) by decide)] at H; exact H
        clear H
        have H := H1
        clear H1
        replace H := Option.bind_eq_some_iff.mp H
        obtain ⟨t377, A310, H⟩ := H
        replace H : ((edf_Demand.f kj20 t377 t363 t364).bind fun bt380 => (if bt380.2.isNone = true then (if bt380.1 > (wrap64 (t364 - t363)) then (if t363 ≥ 0 then (if t364 ≤ (Int.tmod (wrap64 ((Int.tmod a1 41) + 41)) 41) then ((tithelaw10_works.f kj20).bind fun t383 => (some t383)) else (some false)) else (some false)) else (some false)) else (some false))) = some r := H
        have A31 := Aside0.mk A310
        clear A310
        replace H := Option.bind_eq_some_iff.mp H
        obtain ⟨⟨t380, t381⟩, A320, H⟩ := H
        replace H : (if t381.isNone = true then (if t380 > (wrap64 (t364 - t363)) then (if t363 ≥ 0 then (if t364 ≤ (Int.tmod (wrap64 ((Int.tmod a1 41) + 41)) 41) then ((tithelaw10_works.f kj20).bind fun t383 => (some t383)) else (some false)) else (some false)) else (some false)) else (some false)) = some r := H
        have A32 := Aside0.mk A320
        clear A320
        rcases t381 with _ | q382
        ·have H1 : (if t380 > (wrap64 (t364 - t363)) then (if t363 ≥ 0 then (if t364 ≤ (Int.tmod (wrap64 ((Int.tmod a1 41) + 41)) 41) then ((tithelaw10_works.f kj20).bind fun t383 => (some t383)) else (some false)) else (some false)) else (some false)) = some r := by rw [if_pos (show (none : Option Int).isNone = true by rfl)] at H; exact H
         clear H
         have H := H1
         clear H1
         try simp only [errW_none, errW_some]
         by_cases c33 : t380 > (wrap64 (t364 - t363))
         ·rw [if_pos c33] at H
          have c33b0 : decide ((wrap64 (t364 - t363)) < t380) = true := decide_eq_true c33
          clear c33
          by_cases c34 : t363 ≥ 0
          ·rw [if_pos c34] at H
           have c34b0 : decide (0 ≤ t363) = true := decide_eq_true c34
           clear c34
           by_cases c35 : t364 ≤ (Int.tmod (wrap64 ((Int.tmod a1 41) + 41)) 41)
           ·rw [if_pos c35] at H
            have c35b0 : decide (t364 ≤ (Int.tmod (wrap64 ((Int.tmod a1 41) + 41)) 41)) = true := decide_eq_true c35
            clear c35
            replace H := Option.bind_eq_some_iff.mp H
            obtain ⟨t383, A360, H⟩ := H
            replace H : (some t383) = some r := H
            have A36 := Aside0.mk A360
            clear A360
            obtain rfl := Option.some.inj H
            go_wp2_with (first | ((with_reducible refine gate_callee (f := 13) rfl ?_); refine goesL_ (some 67) rfl rfl Try.func13 (by kernel_rfl) rfl #[.slice A0 l0.length c0] rfl (by (try simp only [List.map_toArray, List.map_cons, List.map_nil]); first | done | rfl | (simp only [List.length_drop, List.length_take]; rfl)) ?_; (with_reducible refine (tithelaw10_items.calls kj20 _ _ l0 t377 _ ?side1 ?side2 A31.out).mono ?_); (case side1 => repeat (first | exact (Kd.C_below HR0.out HB.out) | (with_reducible refine Kd.C_alloc ?_ _) | (with_reducible refine Kd.C_drewN ?_ _) | (with_reducible refine Kd.C_drew ?_))); (case side2 => exact HC0.out); rintro e w37 ⟨v378, rfl, ho0, hb⟩; refine ⟨_, rfl, ?_⟩; have n0_ := Aside0.mk (Kd.R_lower ho0 (below_size (by repeat (first | (with_reducible first | exact HB.out | apply below_alloc | apply pw_below_drewN | apply below_drew1) | exact HB.out)))); have n1_ := Aside0.mk (below_step (by repeat (first | (with_reducible first | exact HB.out | apply below_alloc | apply pw_below_drewN | apply below_drew1) | exact HB.out)) hb); clear HB; have HO379 := n0_; have HB := n1_; clear n0_ n1_; (try clear hb); (try clear hb2); (try clear hk); (try clear hi); (try clear ho0); obtain ⟨Ao38, co38, eo38⟩ := Kd.R_slice HO379.out; subst eo38) | ((with_reducible refine gate_callee (f := 23) rfl ?_); refine goesL_ (some 70) rfl rfl Try.func23 (by kernel_rfl) rfl #[.slice Ao38 t377.length co38, .int .i64 t363, .int .i64 t364] rfl (by (try simp only [List.map_toArray, List.map_cons, List.map_nil]); first | done | rfl | (simp only [List.length_drop, List.length_take]; rfl)) ?_; (with_reducible refine (edf_Demand.calls kj20 _ _ t377 t363 t364 t380 none _ ?side1 ?side2 A32.out).mono ?_); (case side1 => repeat (first | exact (Kd.R_reads' HO379.out).2.2 | (with_reducible refine Kd.C_alloc ?_ _) | (with_reducible refine Kd.C_drewN ?_ _) | (with_reducible refine Kd.C_drew ?_))); (case side2 => exact (Kd.R_reads' HO379.out).2.1); rintro e w39 ⟨rfl, hb⟩; refine ⟨_, rfl, ?_⟩; have n0_ := Aside0.mk (Kd.R_below (by (with_reducible repeat (first | apply Kd.R_alloc | apply Kd.R_drewN | apply Kd.R_drew)); exact HO379.out) hb); have n1_ := Aside0.mk (below_step (by repeat (first | (with_reducible first | exact HB.out | apply below_alloc | apply pw_below_drewN | apply below_drew1) | exact HB.out)) hb); clear HO379; clear HB; have HO379 := n0_; have HB := n1_; clear n0_ n1_; (try clear hb); (try clear hb2); (try clear hk); (try clear hi); (try simp only [errW_none, errW_some])) | (go_at_call 19; (with_reducible refine (tithelaw10_works.calls kj20  t383 _ A36.out).mono ?_); rintro e w40 ⟨rfl, hb⟩; have n0_ := Aside0.mk (Kd.R_below (by (with_reducible repeat (first | apply Kd.R_alloc | apply Kd.R_drewN | apply Kd.R_drew)); exact HO379.out) hb); have n1_ := Aside0.mk (below_step (by repeat (first | (with_reducible first | exact HB.out | apply below_alloc | apply pw_below_drewN | apply below_drew1) | exact HB.out)) hb); clear HO379; clear HB; have HO379 := n0_; have HB := n1_; clear n0_ n1_; (try clear hb); (try clear hb2); (try clear hk); (try clear hi)))
            go_ret
            exact ⟨by first | rfl | (simp [errW_none, errW_some] <;> rfl) | (simp [*, errW_none, errW_some] <;> rfl), by repeat (first | (with_reducible first | exact HB.out | apply below_alloc | apply pw_below_drewN | apply below_drew1) | exact HB.out)⟩
           ·rw [if_neg c35] at H
            have c35b0 : decide (t364 ≤ (Int.tmod (wrap64 ((Int.tmod a1 41) + 41)) 41)) = false := decide_eq_false c35
            clear c35
            obtain rfl := Option.some.inj H
            go_wp2_with (first | ((with_reducible refine gate_callee (f := 13) rfl ?_); refine goesL_ (some 67) rfl rfl Try.func13 (by kernel_rfl) rfl #[.slice A0 l0.length c0] rfl (by (try simp only [List.map_toArray, List.map_cons, List.map_nil]); first | done | rfl | (simp only [List.length_drop, List.length_take]; rfl)) ?_; (with_reducible refine (tithelaw10_items.calls kj20 _ _ l0 t377 _ ?side1 ?side2 A31.out).mono ?_); (case side1 => repeat (first | exact (Kd.C_below HR0.out HB.out) | (with_reducible refine Kd.C_alloc ?_ _) | (with_reducible refine Kd.C_drewN ?_ _) | (with_reducible refine Kd.C_drew ?_))); (case side2 => exact HC0.out); rintro e w41 ⟨v378, rfl, ho0, hb⟩; refine ⟨_, rfl, ?_⟩; have n0_ := Aside0.mk (Kd.R_lower ho0 (below_size (by repeat (first | (with_reducible first | exact HB.out | apply below_alloc | apply pw_below_drewN | apply below_drew1) | exact HB.out)))); have n1_ := Aside0.mk (below_step (by repeat (first | (with_reducible first | exact HB.out | apply below_alloc | apply pw_below_drewN | apply below_drew1) | exact HB.out)) hb); clear HB; have HO379 := n0_; have HB := n1_; clear n0_ n1_; (try clear hb); (try clear hb2); (try clear hk); (try clear hi); (try clear ho0); obtain ⟨Ao42, co42, eo42⟩ := Kd.R_slice HO379.out; subst eo42) | ((with_reducible refine gate_callee (f := 23) rfl ?_); refine goesL_ (some 70) rfl rfl Try.func23 (by kernel_rfl) rfl #[.slice Ao42 t377.length co42, .int .i64 t363, .int .i64 t364] rfl (by (try simp only [List.map_toArray, List.map_cons, List.map_nil]); first | done | rfl | (simp only [List.length_drop, List.length_take]; rfl)) ?_; (with_reducible refine (edf_Demand.calls kj20 _ _ t377 t363 t364 t380 none _ ?side1 ?side2 A32.out).mono ?_); (case side1 => repeat (first | exact (Kd.R_reads' HO379.out).2.2 | (with_reducible refine Kd.C_alloc ?_ _) | (with_reducible refine Kd.C_drewN ?_ _) | (with_reducible refine Kd.C_drew ?_))); (case side2 => exact (Kd.R_reads' HO379.out).2.1); rintro e w43 ⟨rfl, hb⟩; refine ⟨_, rfl, ?_⟩; have n0_ := Aside0.mk (Kd.R_below (by (with_reducible repeat (first | apply Kd.R_alloc | apply Kd.R_drewN | apply Kd.R_drew)); exact HO379.out) hb); have n1_ := Aside0.mk (below_step (by repeat (first | (with_reducible first | exact HB.out | apply below_alloc | apply pw_below_drewN | apply below_drew1) | exact HB.out)) hb); clear HO379; clear HB; have HO379 := n0_; have HB := n1_; clear n0_ n1_; (try clear hb); (try clear hb2); (try clear hk); (try clear hi); (try simp only [errW_none, errW_some])))
            go_ret
            exact ⟨by first | rfl | (simp [errW_none, errW_some] <;> rfl) | (simp [*, errW_none, errW_some] <;> rfl), by repeat (first | (with_reducible first | exact HB.out | apply below_alloc | apply pw_below_drewN | apply below_drew1) | exact HB.out)⟩
          ·rw [if_neg c34] at H
           have c34b0 : decide (0 ≤ t363) = false := decide_eq_false c34
           clear c34
           obtain rfl := Option.some.inj H
           go_wp2_with (first | ((with_reducible refine gate_callee (f := 13) rfl ?_); refine goesL_ (some 67) rfl rfl Try.func13 (by kernel_rfl) rfl #[.slice A0 l0.length c0] rfl (by (try simp only [List.map_toArray, List.map_cons, List.map_nil]); first | done | rfl | (simp only [List.length_drop, List.length_take]; rfl)) ?_; (with_reducible refine (tithelaw10_items.calls kj20 _ _ l0 t377 _ ?side1 ?side2 A31.out).mono ?_); (case side1 => repeat (first | exact (Kd.C_below HR0.out HB.out) | (with_reducible refine Kd.C_alloc ?_ _) | (with_reducible refine Kd.C_drewN ?_ _) | (with_reducible refine Kd.C_drew ?_))); (case side2 => exact HC0.out); rintro e w44 ⟨v378, rfl, ho0, hb⟩; refine ⟨_, rfl, ?_⟩; have n0_ := Aside0.mk (Kd.R_lower ho0 (below_size (by repeat (first | (with_reducible first | exact HB.out | apply below_alloc | apply pw_below_drewN | apply below_drew1) | exact HB.out)))); have n1_ := Aside0.mk (below_step (by repeat (first | (with_reducible first | exact HB.out | apply below_alloc | apply pw_below_drewN | apply below_drew1) | exact HB.out)) hb); clear HB; have HO379 := n0_; have HB := n1_; clear n0_ n1_; (try clear hb); (try clear hb2); (try clear hk); (try clear hi); (try clear ho0); obtain ⟨Ao45, co45, eo45⟩ := Kd.R_slice HO379.out; subst eo45) | ((with_reducible refine gate_callee (f := 23) rfl ?_); refine goesL_ (some 70) rfl rfl Try.func23 (by kernel_rfl) rfl #[.slice Ao45 t377.length co45, .int .i64 t363, .int .i64 t364] rfl (by (try simp only [List.map_toArray, List.map_cons, List.map_nil]); first | done | rfl | (simp only [List.length_drop, List.length_take]; rfl)) ?_; (with_reducible refine (edf_Demand.calls kj20 _ _ t377 t363 t364 t380 none _ ?side1 ?side2 A32.out).mono ?_); (case side1 => repeat (first | exact (Kd.R_reads' HO379.out).2.2 | (with_reducible refine Kd.C_alloc ?_ _) | (with_reducible refine Kd.C_drewN ?_ _) | (with_reducible refine Kd.C_drew ?_))); (case side2 => exact (Kd.R_reads' HO379.out).2.1); rintro e w46 ⟨rfl, hb⟩; refine ⟨_, rfl, ?_⟩; have n0_ := Aside0.mk (Kd.R_below (by (with_reducible repeat (first | apply Kd.R_alloc | apply Kd.R_drewN | apply Kd.R_drew)); exact HO379.out) hb); have n1_ := Aside0.mk (below_step (by repeat (first | (with_reducible first | exact HB.out | apply below_alloc | apply pw_below_drewN | apply below_drew1) | exact HB.out)) hb); clear HO379; clear HB; have HO379 := n0_; have HB := n1_; clear n0_ n1_; (try clear hb); (try clear hb2); (try clear hk); (try clear hi); (try simp only [errW_none, errW_some])))
           go_ret
           exact ⟨by first | rfl | (simp [errW_none, errW_some] <;> rfl) | (simp [*, errW_none, errW_some] <;> rfl), by repeat (first | (with_reducible first | exact HB.out | apply below_alloc | apply pw_below_drewN | apply below_drew1) | exact HB.out)⟩
         ·rw [if_neg c33] at H
          have c33b0 : decide ((wrap64 (t364 - t363)) < t380) = false := decide_eq_false c33
          clear c33
          obtain rfl := Option.some.inj H
          go_wp2_with (first | ((with_reducible refine gate_callee (f := 13) rfl ?_); refine goesL_ (some 67) rfl rfl Try.func13 (by kernel_rfl) rfl #[.slice A0 l0.length c0] rfl (by (try simp only [List.map_toArray, List.map_cons, List.map_nil]); first | done | rfl | (simp only [List.length_drop, List.length_take]; rfl)) ?_; (with_reducible refine (tithelaw10_items.calls kj20 _ _ l0 t377 _ ?side1 ?side2 A31.out).mono ?_); (case side1 => repeat (first | exact (Kd.C_below HR0.out HB.out) | (with_reducible refine Kd.C_alloc ?_ _) | (with_reducible refine Kd.C_drewN ?_ _) | (with_reducible refine Kd.C_drew ?_))); (case side2 => exact HC0.out); rintro e w47 ⟨v378, rfl, ho0, hb⟩; refine ⟨_, rfl, ?_⟩; have n0_ := Aside0.mk (Kd.R_lower ho0 (below_size (by repeat (first | (with_reducible first | exact HB.out | apply below_alloc | apply pw_below_drewN | apply below_drew1) | exact HB.out)))); have n1_ := Aside0.mk (below_step (by repeat (first | (with_reducible first | exact HB.out | apply below_alloc | apply pw_below_drewN | apply below_drew1) | exact HB.out)) hb); clear HB; have HO379 := n0_; have HB := n1_; clear n0_ n1_; (try clear hb); (try clear hb2); (try clear hk); (try clear hi); (try clear ho0); obtain ⟨Ao48, co48, eo48⟩ := Kd.R_slice HO379.out; subst eo48) | ((with_reducible refine gate_callee (f := 23) rfl ?_); refine goesL_ (some 70) rfl rfl Try.func23 (by kernel_rfl) rfl #[.slice Ao48 t377.length co48, .int .i64 t363, .int .i64 t364] rfl (by (try simp only [List.map_toArray, List.map_cons, List.map_nil]); first | done | rfl | (simp only [List.length_drop, List.length_take]; rfl)) ?_; (with_reducible refine (edf_Demand.calls kj20 _ _ t377 t363 t364 t380 none _ ?side1 ?side2 A32.out).mono ?_); (case side1 => repeat (first | exact (Kd.R_reads' HO379.out).2.2 | (with_reducible refine Kd.C_alloc ?_ _) | (with_reducible refine Kd.C_drewN ?_ _) | (with_reducible refine Kd.C_drew ?_))); (case side2 => exact (Kd.R_reads' HO379.out).2.1); rintro e w49 ⟨rfl, hb⟩; refine ⟨_, rfl, ?_⟩; have n0_ := Aside0.mk (Kd.R_below (by (with_reducible repeat (first | apply Kd.R_alloc | apply Kd.R_drewN | apply Kd.R_drew)); exact HO379.out) hb); have n1_ := Aside0.mk (below_step (by repeat (first | (with_reducible first | exact HB.out | apply below_alloc | apply pw_below_drewN | apply below_drew1) | exact HB.out)) hb); clear HO379; clear HB; have HO379 := n0_; have HB := n1_; clear n0_ n1_; (try clear hb); (try clear hb2); (try clear hk); (try clear hi); (try simp only [errW_none, errW_some])))
          go_ret
          exact ⟨by first | rfl | (simp [errW_none, errW_some] <;> rfl) | (simp [*, errW_none, errW_some] <;> rfl), by repeat (first | (with_reducible first | exact HB.out | apply below_alloc | apply pw_below_drewN | apply below_drew1) | exact HB.out)⟩
        ·have H1 : (some false) = some r := by rw [if_neg (show ¬ (some q382).isNone = true by simp)] at H; exact H
         clear H
         have H := H1
         clear H1
         try simp only [errW_none, errW_some]
         obtain rfl := Option.some.inj H
         go_wp2_with (first | ((with_reducible refine gate_callee (f := 13) rfl ?_); refine goesL_ (some 67) rfl rfl Try.func13 (by kernel_rfl) rfl #[.slice A0 l0.length c0] rfl (by (try simp only [List.map_toArray, List.map_cons, List.map_nil]); first | done | rfl | (simp only [List.length_drop, List.length_take]; rfl)) ?_; (with_reducible refine (tithelaw10_items.calls kj20 _ _ l0 t377 _ ?side1 ?side2 A31.out).mono ?_); (case side1 => repeat (first | exact (Kd.C_below HR0.out HB.out) | (with_reducible refine Kd.C_alloc ?_ _) | (with_reducible refine Kd.C_drewN ?_ _) | (with_reducible refine Kd.C_drew ?_))); (case side2 => exact HC0.out); rintro e w50 ⟨v378, rfl, ho0, hb⟩; refine ⟨_, rfl, ?_⟩; have n0_ := Aside0.mk (Kd.R_lower ho0 (below_size (by repeat (first | (with_reducible first | exact HB.out | apply below_alloc | apply pw_below_drewN | apply below_drew1) | exact HB.out)))); have n1_ := Aside0.mk (below_step (by repeat (first | (with_reducible first | exact HB.out | apply below_alloc | apply pw_below_drewN | apply below_drew1) | exact HB.out)) hb); clear HB; have HO379 := n0_; have HB := n1_; clear n0_ n1_; (try clear hb); (try clear hb2); (try clear hk); (try clear hi); (try clear ho0); obtain ⟨Ao51, co51, eo51⟩ := Kd.R_slice HO379.out; subst eo51) | ((with_reducible refine gate_callee (f := 23) rfl ?_); refine goesL_ (some 70) rfl rfl Try.func23 (by kernel_rfl) rfl #[.slice Ao51 t377.length co51, .int .i64 t363, .int .i64 t364] rfl (by (try simp only [List.map_toArray, List.map_cons, List.map_nil]); first | done | rfl | (simp only [List.length_drop, List.length_take]; rfl)) ?_; (with_reducible refine (edf_Demand.calls kj20 _ _ t377 t363 t364 t380 (some q382) _ ?side1 ?side2 A32.out).mono ?_); (case side1 => repeat (first | exact (Kd.R_reads' HO379.out).2.2 | (with_reducible refine Kd.C_alloc ?_ _) | (with_reducible refine Kd.C_drewN ?_ _) | (with_reducible refine Kd.C_drew ?_))); (case side2 => exact (Kd.R_reads' HO379.out).2.1); rintro e w52 ⟨rfl, hb⟩; refine ⟨_, rfl, ?_⟩; have n0_ := Aside0.mk (Kd.R_below (by (with_reducible repeat (first | apply Kd.R_alloc | apply Kd.R_drewN | apply Kd.R_drew)); exact HO379.out) hb); have n1_ := Aside0.mk (below_step (by repeat (first | (with_reducible first | exact HB.out | apply below_alloc | apply pw_below_drewN | apply below_drew1) | exact HB.out)) hb); clear HO379; clear HB; have HO379 := n0_; have HB := n1_; clear n0_ n1_; (try clear hb); (try clear hb2); (try clear hk); (try clear hi); (try simp only [errW_none, errW_some])))
         go_ret
         exact ⟨by first | rfl | (simp [errW_none, errW_some] <;> rfl) | (simp [*, errW_none, errW_some] <;> rfl), by repeat (first | (with_reducible first | exact HB.out | apply below_alloc | apply pw_below_drewN | apply below_drew1) | exact HB.out)⟩

end Go.Proofs.YthhaikkicabplaaR.X
