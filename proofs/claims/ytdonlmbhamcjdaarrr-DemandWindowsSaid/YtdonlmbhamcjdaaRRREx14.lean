/- Proved here: what the machine does at calls of the functions that the laws reach is what plain functions of the same names say, or a row of the given statement out of that. No conditions. Written by a program of this session over the printer of the kit. -/
import Derived.Test.YtdonlmbhamcjdaaRRREx0
import Derived.Test.YtdonlmbhamcjdaaRRREx2
import Derived.Test.YtdonlmbhamcjdaaRRREx11
import Derived.Test.YtdonlmbhamcjdaaRRREx12
namespace Go.Proofs.YtdonlmbhamcjdaaRRR.E
open Go.RowKit Go.Proofs.YtdonlmbhamcjdaaRRRW.PrintWords Go.Proofs.YtdonlmbhamcjdaaRRRW.PrintLast Go.Proofs.YtdonlmbhamcjdaaRRRW.PrintMore
attribute [local go_sem] max2_int min2_int max_two min_two max_three min_three max_four min_four   -- for this text's walks alone
set_option linter.unusedVariables false
set_option linter.unusedSimpArgs false

/-! ### tithelaw20_DemandWindows: function 6 -/
mutual
def tithelaw20_DemandWindows.l0 : Nat → Int → Int → Int → Option Int → Int → Int → Int → Int → Int → Int → Option (Bool)
 | 0, _, _, _, _, _, _, _, _, _, _ => none
 | k + 1, x1, x2, x7, x8, x9, x10, x274000, x274001, x274002, x274003 => if x10 < (wrap64 (x1 + x2)) then (if x274000 = 0 then (none) else (if (Int.tmod x10 x274000) = 0 then (tithelaw20_DemandWindows.l0 k x1 x2 x7 x8 (wrap64 (x9 + x274001)) (wrap64 (x10 + 1)) x274000 x274001 x274002 x274003) else (tithelaw20_DemandWindows.l0 k x1 x2 x7 x8 x9 (wrap64 (x10 + 1)) x274000 x274001 x274002 x274003))) else ((demand_Requests.f x274000 x274001 x274002 x274003 (wrap64 (x1 + x2))).bind fun bt279 => ((demand_Requests.f x274000 x274001 x274002 x274003 x1).bind fun bt281 => (if x8.isNone = true then (if bt279.2.isNone = true then (if bt281.2.isNone = true then (if x9 > x7 then (tithelaw20_DemandWindows.j1 k x2 true x274000 x274001 x274002 x274003) else (if x274000 = 0 then (none) else (if (Int.tmod x1 x274000) = 0 then (if x9 = x7 then (if bt279.1 > (wrap64 (bt281.1 + x7)) then (tithelaw20_DemandWindows.j1 k x2 true x274000 x274001 x274002 x274003) else (tithelaw20_DemandWindows.j1 k x2 (decide (bt279.1 < x7)) x274000 x274001 x274002 x274003)) else (tithelaw20_DemandWindows.j1 k x2 true x274000 x274001 x274002 x274003)) else (if bt279.1 > (wrap64 (bt281.1 + x7)) then (tithelaw20_DemandWindows.j1 k x2 true x274000 x274001 x274002 x274003) else (tithelaw20_DemandWindows.j1 k x2 (decide (bt279.1 < x7)) x274000 x274001 x274002 x274003))))) else (tithelaw20_DemandWindows.j1 k x2 true x274000 x274001 x274002 x274003)) else (tithelaw20_DemandWindows.j1 k x2 true x274000 x274001 x274002 x274003)) else (tithelaw20_DemandWindows.j1 k x2 true x274000 x274001 x274002 x274003))))
def tithelaw20_DemandWindows.j1 : Nat → Int → Bool → Int → Int → Int → Int → Option (Bool)
 | 0, _, _, _, _, _, _ => none
 | k + 1, x2, x111, x274000, x274001, x274002, x274003 => if x111 = true then (some false) else ((demand_Due.f x274000 x274001 x274002 x274003 (wrap64 (x274002 + x2))).bind fun bt286 => ((demand_Due.f x274000 x274001 x274002 x274003 (wrap64 ((wrap64 (x274002 + x2)) + x274000))).bind fun bt288 => (if bt286.2.isNone = true then (if bt288.2.isNone = true then (if bt288.1 = (wrap64 (bt286.1 + x274001)) then ((tithelaw20_works.f k).bind fun t292 => (some t292)) else (some false)) else (some false)) else (some false))))
end
def tithelaw20_DemandWindows.f (k : Nat) (a0_0 : Int) (a0_1 : Int) (a0_2 : Int) (a0_3 : Int) (a1 : Int) (a2 : Int) : Option (Bool) := (demand_Requests.f a0_0 a0_1 a0_2 a0_3 (Int.tmod (wrap64 ((Int.tmod a2 200) + 200)) 200)).bind fun bt274 => ((titheref20_One.f a0_0 a0_1 a0_2 a0_3).bind fun t276 => (if t276 = 0 then (tithelaw20_DemandWindows.l0 k (Int.tmod (wrap64 ((Int.tmod a1 200) + 200)) 200) (Int.tmod (wrap64 ((Int.tmod a2 200) + 200)) 200) bt274.1 bt274.2 0 (Int.tmod (wrap64 ((Int.tmod a1 200) + 200)) 200) a0_0 a0_1 a0_2 a0_3) else ((tithelaw20_num.f bt274.2).bind fun t277 => (if t277 = 2 then ((tithelaw20_works.f k).bind fun t278 => (some t278)) else (some false)))))
theorem tithelaw20_DemandWindows.mono_l : ∀ k, (∀ y0 y1 y2 y3 y4 y5 y6 y7 y8 y9, LeO (tithelaw20_DemandWindows.l0 k y0 y1 y2 y3 y4 y5 y6 y7 y8 y9) (tithelaw20_DemandWindows.l0 (k + 1) y0 y1 y2 y3 y4 y5 y6 y7 y8 y9)) ∧ (∀ y0 y1 y2 y3 y4 y5, LeO (tithelaw20_DemandWindows.j1 k y0 y1 y2 y3 y4 y5) (tithelaw20_DemandWindows.j1 (k + 1) y0 y1 y2 y3 y4 y5))
 | 0 => ⟨fun _ _ _ _ _ _ _ _ _ _ r h => by simp [tithelaw20_DemandWindows.l0] at h, fun _ _ _ _ _ _ r h => by simp [tithelaw20_DemandWindows.j1] at h⟩
 | k + 1 => by
  obtain ⟨ih0, ih1⟩ := tithelaw20_DemandWindows.mono_l k
  refine ⟨?_, ?_⟩
  ·intro y0 y1 y2 y3 y4 y5 y6 y7 y8 y9
   unfold tithelaw20_DemandWindows.l0
   repeat' first
   | (with_reducible exact ih0 _ _ _ _ _ _ _ _ _ _)
   | (with_reducible exact ih1 _ _ _ _ _ _)
   | (with_reducible exact tithelaw20_works.mono _)
   | (with_reducible exact LeO.refl _)
   | (with_reducible exact LeO.none _)
   | (with_reducible refine LeO.ite ?_ ?_)
   | (with_reducible refine LeO.bind ?_ (fun _ => ?_))
   | exact ih0 _ _ _ _ _ _ _ _ _ _
   | exact ih1 _ _ _ _ _ _
   | exact tithelaw20_works.mono _
   | exact LeO.none _
   | refine LeO.ite ?_ ?_
   | refine LeO.bind ?_ (fun _ => ?_)
  ·intro y0 y1 y2 y3 y4 y5
   unfold tithelaw20_DemandWindows.j1
   repeat' first
   | (with_reducible exact ih0 _ _ _ _ _ _ _ _ _ _)
   | (with_reducible exact ih1 _ _ _ _ _ _)
   | (with_reducible exact tithelaw20_works.mono _)
   | (with_reducible exact LeO.refl _)
   | (with_reducible exact LeO.none _)
   | (with_reducible refine LeO.ite ?_ ?_)
   | (with_reducible refine LeO.bind ?_ (fun _ => ?_))
   | exact ih0 _ _ _ _ _ _ _ _ _ _
   | exact ih1 _ _ _ _ _ _
   | exact tithelaw20_works.mono _
   | exact LeO.none _
   | refine LeO.ite ?_ ?_
   | refine LeO.bind ?_ (fun _ => ?_)
theorem tithelaw20_DemandWindows.mono : ∀ a0 a1 a2 a3 a4 a5 k, LeO (tithelaw20_DemandWindows.f k a0 a1 a2 a3 a4 a5) (tithelaw20_DemandWindows.f (k + 1) a0 a1 a2 a3 a4 a5) := by
 intro a0 a1 a2 a3 a4 a5 k
 obtain ⟨ih0, ih1⟩ := tithelaw20_DemandWindows.mono_l k
 unfold tithelaw20_DemandWindows.f
 repeat' first
   | (with_reducible exact ih0 _ _ _ _ _ _ _ _ _ _)
   | (with_reducible exact ih1 _ _ _ _ _ _)
   | (with_reducible exact tithelaw20_works.mono _)
   | (with_reducible exact LeO.refl _)
   | (with_reducible exact LeO.none _)
   | (with_reducible refine LeO.ite ?_ ?_)
   | (with_reducible refine LeO.bind ?_ (fun _ => ?_))
   | exact ih0 _ _ _ _ _ _ _ _ _ _
   | exact ih1 _ _ _ _ _ _
   | exact tithelaw20_works.mono _
   | exact LeO.none _
   | refine LeO.ite ?_ ?_
   | refine LeO.bind ?_ (fun _ => ?_)
set_option maxHeartbeats 8000000 in
set_option maxRecDepth 100000 in
theorem tithelaw20_DemandWindows.calls (k : Nat) (a0_0 : Int) (a0_1 : Int) (a0_2 : Int) (a0_3 : Int) (a1 : Int) (a2 : Int) (r : Bool) (w : World) (h : tithelaw20_DemandWindows.f k a0_0 a0_1 a0_2 a0_3 a1 a2 = some r) :
  Calls Try.prog 6 #[.agg #[.int .i64 a0_0, .int .i64 a0_1, .int .i64 a0_2, .int .i64 a0_3], .int .i64 a1, .int .i64 a2] w fun e w' => e = .returned (.bool r) ∧ Below w.heap.size w w' := by
 have hu43 := Try.underlying43
 have hu25 := Try.underlying25
 have hu72 := Try.underlying72
 have HB := Aside0.mk (Below.refl w.heap.size w)
 have H : ((demand_Requests.f a0_0 a0_1 a0_2 a0_3 (Int.tmod (wrap64 ((Int.tmod a2 200) + 200)) 200)).bind fun bt274 => ((titheref20_One.f a0_0 a0_1 a0_2 a0_3).bind fun t276 => (if t276 = 0 then (tithelaw20_DemandWindows.l0 k (Int.tmod (wrap64 ((Int.tmod a1 200) + 200)) 200) (Int.tmod (wrap64 ((Int.tmod a2 200) + 200)) 200) bt274.1 bt274.2 0 (Int.tmod (wrap64 ((Int.tmod a1 200) + 200)) 200) a0_0 a0_1 a0_2 a0_3) else ((tithelaw20_num.f bt274.2).bind fun t277 => (if t277 = 2 then ((tithelaw20_works.f k).bind fun t278 => (some t278)) else (some false)))))) = some r := h
 clear h
 replace H := Option.bind_eq_some_iff.mp H
 obtain ⟨⟨t274, t275⟩, A40, H⟩ := H
 replace H : ((titheref20_One.f a0_0 a0_1 a0_2 a0_3).bind fun t276 => (if t276 = 0 then (tithelaw20_DemandWindows.l0 k (Int.tmod (wrap64 ((Int.tmod a1 200) + 200)) 200) (Int.tmod (wrap64 ((Int.tmod a2 200) + 200)) 200) t274 t275 0 (Int.tmod (wrap64 ((Int.tmod a1 200) + 200)) 200) a0_0 a0_1 a0_2 a0_3) else ((tithelaw20_num.f t275).bind fun t277 => (if t277 = 2 then ((tithelaw20_works.f k).bind fun t278 => (some t278)) else (some false))))) = some r := H
 have A4 := Aside0.mk A40
 clear A40
 replace H := Option.bind_eq_some_iff.mp H
 obtain ⟨t276, A50, H⟩ := H
 replace H : (if t276 = 0 then (tithelaw20_DemandWindows.l0 k (Int.tmod (wrap64 ((Int.tmod a1 200) + 200)) 200) (Int.tmod (wrap64 ((Int.tmod a2 200) + 200)) 200) t274 t275 0 (Int.tmod (wrap64 ((Int.tmod a1 200) + 200)) 200) a0_0 a0_1 a0_2 a0_3) else ((tithelaw20_num.f t275).bind fun t277 => (if t277 = 2 then ((tithelaw20_works.f k).bind fun t278 => (some t278)) else (some false)))) = some r := H
 have A5 := Aside0.mk A50
 clear A50
 by_cases c6 : t276 = 0
 ·rw [if_pos c6] at H
  have c6b0 : (t276 == 0) = true := beq_iff_eq.mpr c6
  have c6b1 : (t276 != 0) = false := bne_eq_false_iff_eq.mpr c6
  clear c6
  have H' := Aside0.mk H
  clear H
  go_enter Try.func6, Try.ntmps6
  go_wp2_with (first | ((with_reducible refine gate_dst (N := 3) rfl ?_); refine box_event ?hg (N := 3) ?hd (cs := #[.int .i64 a0_0, .int .i64 a0_1, .int .i64 a0_2, .int .i64 a0_3]) (t := 43) ?hr ?_; (case hd => rfl); (case hg => rfl); (case hr => first | (go_simp; done) | (go_simp; rfl)); intro gb273 hg w7 hbox hb; have n0_ := Aside0.mk (below_step (by repeat (first | (with_reducible first | exact HB.out | apply below_alloc | apply pw_below_drewN | apply below_drew1) | exact HB.out)) hb); have n1_ := Aside0.mk (hbox); have n2_ := Aside0.mk ((by rw [hg]; exact (below_size (by repeat (first | (with_reducible first | exact HB.out | apply below_alloc | apply pw_below_drewN | apply below_drew1) | exact HB.out))) : w.heap.size ≤ gb273)); have n3_ := Aside0.mk ((by rw [hg]; exact (below_size (by repeat (first | (with_reducible first | exact HB.out | apply below_alloc | apply pw_below_drewN | apply below_drew1) | exact HB.out))) : w.heap.size ≤ gb273)); clear HB; have HB := n0_; have BK273 := n1_; have GW273 := n2_; have GE273 := n3_; clear n0_ n1_ n2_ n3_; clear hb hbox hg; have hcz8_0 : w7.cell? ⟨gb273, 0, none⟩ = some (.int .i64 a0_0) := (blk_cell BK273.out 0).trans (by rfl); have hcz8_1 : w7.cell? ⟨gb273, 1, none⟩ = some (.int .i64 a0_1) := (blk_cell BK273.out 1).trans (by rfl); have hcz8_2 : w7.cell? ⟨gb273, 2, none⟩ = some (.int .i64 a0_2) := (blk_cell BK273.out 2).trans (by rfl); have hcz8_3 : w7.cell? ⟨gb273, 3, none⟩ = some (.int .i64 a0_3) := (blk_cell BK273.out 3).trans (by rfl); have hfz8_0 := blk_frozen BK273.out 0; have hfz8_1 := blk_frozen BK273.out 1; have hfz8_2 := blk_frozen BK273.out 2; have hfz8_3 := blk_frozen BK273.out 3) | ((with_reducible refine gate_callee (f := 22) rfl ?_); refine goesL_ (some 30) rfl rfl Try.func22 (by kernel_rfl) rfl #[.agg #[.int .i64 a0_0, .int .i64 a0_1, .int .i64 a0_2, .int .i64 a0_3], .int .i64 (Int.tmod (wrap64 ((Int.tmod a2 200) + 200)) 200)] rfl (by (try simp only [List.map_toArray, List.map_cons, List.map_nil]); first | done | rfl | (simp only [List.length_drop, List.length_take]; rfl)) ?_; (with_reducible refine (demand_Requests.calls a0_0 a0_1 a0_2 a0_3 (Int.tmod (wrap64 ((Int.tmod a2 200) + 200)) 200) t274 t275 _ A4.out).mono ?_); rintro e w9 ⟨rfl, hb⟩; refine ⟨_, rfl, ?_⟩; have n0_ := Aside0.mk (blk_below (g := gb273) (o := .cells #[.int .i64 a0_0, .int .i64 a0_1, .int .i64 a0_2, .int .i64 a0_3] 43 (0, 0)) (by (with_reducible repeat (first | refine blk_drewN ?_ _ | refine blk_drew ?_ | refine blk_alloc ?_ _)); exact BK273.out) hb); have n1_ := Aside0.mk (below_step (by repeat (first | (with_reducible first | exact HB.out | apply below_alloc | apply pw_below_drewN | apply below_drew1 | refine below_set ?_ GE273.out) | exact HB.out)) hb); clear BK273; clear HB; have BK273 := n0_; have HB := n1_; clear n0_ n1_; (try clear hb); (try clear hb2); (try clear hk); (try clear hi); (try simp only [errW_none, errW_some]); have hcz10_0 : w9.cell? ⟨gb273, 0, none⟩ = some (.int .i64 a0_0) := (blk_cell BK273.out 0).trans (by rfl); have hcz10_1 : w9.cell? ⟨gb273, 1, none⟩ = some (.int .i64 a0_1) := (blk_cell BK273.out 1).trans (by rfl); have hcz10_2 : w9.cell? ⟨gb273, 2, none⟩ = some (.int .i64 a0_2) := (blk_cell BK273.out 2).trans (by rfl); have hcz10_3 : w9.cell? ⟨gb273, 3, none⟩ = some (.int .i64 a0_3) := (blk_cell BK273.out 3).trans (by rfl); have hfz10_0 := blk_frozen BK273.out 0; have hfz10_1 := blk_frozen BK273.out 1; have hfz10_2 := blk_frozen BK273.out 2; have hfz10_3 := blk_frozen BK273.out 3) | ((with_reducible refine gate_callee (f := 29) rfl ?_); refine goesL_ (some 34) rfl rfl Try.func29 (by kernel_rfl) rfl #[.agg #[.int .i64 a0_0, .int .i64 a0_1, .int .i64 a0_2, .int .i64 a0_3]] rfl (by (try simp only [List.map_toArray, List.map_cons, List.map_nil]); first | done | rfl | (simp only [List.length_drop, List.length_take]; rfl)) ?_; (with_reducible refine (titheref20_One.calls a0_0 a0_1 a0_2 a0_3 t276 _ A5.out).mono ?_); rintro e w11 ⟨rfl, hb⟩; refine ⟨_, rfl, ?_⟩; have n0_ := Aside0.mk (blk_below (g := gb273) (o := .cells #[.int .i64 a0_0, .int .i64 a0_1, .int .i64 a0_2, .int .i64 a0_3] 43 (0, 0)) (by (with_reducible repeat (first | refine blk_drewN ?_ _ | refine blk_drew ?_ | refine blk_alloc ?_ _)); exact BK273.out) hb); have n1_ := Aside0.mk (below_step (by repeat (first | (with_reducible first | exact HB.out | apply below_alloc | apply pw_below_drewN | apply below_drew1 | refine below_set ?_ GE273.out) | exact HB.out)) hb); clear BK273; clear HB; have BK273 := n0_; have HB := n1_; clear n0_ n1_; (try clear hb); (try clear hb2); (try clear hk); (try clear hi)))
  go_loopg [9, 10] k (fun kq v9 v10 w' => ∃ (x9_1 : Int) (x10_1 : Int), v9 = .int .i64 x9_1 ∧ v10 = .int .i64 x10_1 ∧ Aside0 (tithelaw20_DemandWindows.l0 kq (Int.tmod (wrap64 ((Int.tmod a1 200) + 200)) 200) (Int.tmod (wrap64 ((Int.tmod a2 200) + 200)) 200) t274 t275 x9_1 x10_1 a0_0 a0_1 a0_2 a0_3 = some r) ∧ Aside0 (kq ≤ k) ∧ Aside0 (w'.heap[gb273]? = some (.cells #[.int .i64 a0_0, .int .i64 a0_1, .int .i64 a0_2, .int .i64 a0_3] 43 (0, 0))) ∧ Aside0 (Below w.heap.size w w'))
  case atStart => exact ⟨(0), (Int.tmod (wrap64 ((Int.tmod a1 200) + 200)) 200), (by first | rfl | (simp; done) | (simp [*]; done)), (by first | rfl | (simp; done) | (simp [*]; done)), H', ⟨Nat.le_refl _⟩, ⟨by (with_reducible repeat (first | refine blk_drewN ?_ _ | refine blk_drew ?_ | refine blk_alloc ?_ _)); exact BK273.out⟩, ⟨by repeat (first | (with_reducible first | exact HB.out | apply below_alloc | apply pw_below_drewN | apply below_drew1 | refine below_set ?_ GE273.out) | exact HB.out)⟩⟩
  case round =>
   clear H'
   try clear c2
   try clear p2
   try clear c6
   try clear c6b0
   try clear c6b1
   try clear p6
   try clear hcz10_0
   try clear hcz10_1
   try clear hcz10_2
   try clear hcz10_3
   try clear hcz8_0
   try clear hcz8_1
   try clear hcz8_2
   try clear hcz8_3
   try clear hfz10_0
   try clear hfz10_1
   try clear hfz10_2
   try clear hfz10_3
   try clear hfz8_0
   try clear hfz8_1
   try clear hfz8_2
   try clear hfz8_3
   obtain ⟨x9_1, x10_1, rfl, rfl, HA, HK1, BK273, HB⟩ := hrel
   cases gk with
   | zero => exact absurd HA.out (by simp [tithelaw20_DemandWindows.l0])
   | succ k1 =>
    have H := HA.out
    clear HA
    simp only [tithelaw20_DemandWindows.l0] at H
    by_cases c12 : x10_1 < (wrap64 ((Int.tmod (wrap64 ((Int.tmod a1 200) + 200)) 200) + (Int.tmod (wrap64 ((Int.tmod a2 200) + 200)) 200)))
    ·rw [if_pos c12] at H
     have c12b0 : decide (x10_1 < (wrap64 ((Int.tmod (wrap64 ((Int.tmod a1 200) + 200)) 200) + (Int.tmod (wrap64 ((Int.tmod a2 200) + 200)) 200)))) = true := decide_eq_true c12
     clear c12
     by_cases c13 : a0_0 = 0
     ·rw [if_pos c13] at H
      exact absurd H (by simp)
     ·rw [if_neg c13] at H
      have c13b0 : (a0_0 == 0) = false := beq_eq_false_iff_ne.mpr c13
      have c13b1 : (a0_0 != 0) = true := bne_iff_ne.mpr c13
      by_cases c14 : (Int.tmod x10_1 a0_0) = 0
      ·rw [if_pos c14] at H
       have c14b0 : ((Int.tmod x10_1 a0_0) == 0) = true := beq_iff_eq.mpr c14
       have c14b1 : ((Int.tmod x10_1 a0_0) != 0) = false := bne_eq_false_iff_eq.mpr c14
       clear c14
       have H' := Aside0.mk H
       clear H
       have hcz15_0 : wr.cell? ⟨gb273, 0, none⟩ = some (.int .i64 a0_0) := (blk_cell BK273.out 0).trans (by rfl)
       have hcz15_1 : wr.cell? ⟨gb273, 1, none⟩ = some (.int .i64 a0_1) := (blk_cell BK273.out 1).trans (by rfl)
       have hcz15_2 : wr.cell? ⟨gb273, 2, none⟩ = some (.int .i64 a0_2) := (blk_cell BK273.out 2).trans (by rfl)
       have hcz15_3 : wr.cell? ⟨gb273, 3, none⟩ = some (.int .i64 a0_3) := (blk_cell BK273.out 3).trans (by rfl)
       have hfz15_0 := blk_frozen BK273.out 0
       have hfz15_1 := blk_frozen BK273.out 1
       have hfz15_2 := blk_frozen BK273.out 2
       have hfz15_3 := blk_frozen BK273.out 3
       go_wp2
       go_roundg k1
       case measure => have := HK1.out; omega
       case rel => exact ⟨(wrap64 (x9_1 + a0_1)), (wrap64 (x10_1 + 1)), (by first | rfl | (simp; done) | (simp [*]; done)), (by first | rfl | (simp; done) | (simp [*]; done)), H', ⟨by have := HK1.out; omega⟩, ⟨by (with_reducible repeat (first | refine blk_drewN ?_ _ | refine blk_drew ?_ | refine blk_alloc ?_ _)); exact BK273.out⟩, ⟨by repeat (first | (with_reducible first | exact HB.out | apply below_alloc | apply pw_below_drewN | apply below_drew1 | refine below_set ?_ GE273.out) | exact HB.out)⟩⟩
      ·rw [if_neg c14] at H
       have c14b0 : ((Int.tmod x10_1 a0_0) == 0) = false := beq_eq_false_iff_ne.mpr c14
       have c14b1 : ((Int.tmod x10_1 a0_0) != 0) = true := bne_iff_ne.mpr c14
       have H' := Aside0.mk H
       clear H
       have hcz16_0 : wr.cell? ⟨gb273, 0, none⟩ = some (.int .i64 a0_0) := (blk_cell BK273.out 0).trans (by rfl)
       have hcz16_1 : wr.cell? ⟨gb273, 1, none⟩ = some (.int .i64 a0_1) := (blk_cell BK273.out 1).trans (by rfl)
       have hcz16_2 : wr.cell? ⟨gb273, 2, none⟩ = some (.int .i64 a0_2) := (blk_cell BK273.out 2).trans (by rfl)
       have hcz16_3 : wr.cell? ⟨gb273, 3, none⟩ = some (.int .i64 a0_3) := (blk_cell BK273.out 3).trans (by rfl)
       have hfz16_0 := blk_frozen BK273.out 0
       have hfz16_1 := blk_frozen BK273.out 1
       have hfz16_2 := blk_frozen BK273.out 2
       have hfz16_3 := blk_frozen BK273.out 3
       go_wp2
       go_roundg k1
       case measure => have := HK1.out; omega
       case rel => exact ⟨(x9_1), (wrap64 (x10_1 + 1)), (by first | rfl | (simp; done) | (simp [*]; done)), (by first | rfl | (simp; done) | (simp [*]; done)), H', ⟨by have := HK1.out; omega⟩, ⟨by (with_reducible repeat (first | refine blk_drewN ?_ _ | refine blk_drew ?_ | refine blk_alloc ?_ _)); exact BK273.out⟩, ⟨by repeat (first | (with_reducible first | exact HB.out | apply below_alloc | apply pw_below_drewN | apply below_drew1 | refine below_set ?_ GE273.out) | exact HB.out)⟩⟩
    ·rw [if_neg c12] at H
     have c12b0 : decide (x10_1 < (wrap64 ((Int.tmod (wrap64 ((Int.tmod a1 200) + 200)) 200) + (Int.tmod (wrap64 ((Int.tmod a2 200) + 200)) 200)))) = false := decide_eq_false c12
     clear c12
     replace H := Option.bind_eq_some_iff.mp H
     obtain ⟨⟨t279, t280⟩, A170, H⟩ := H
     replace H : ((demand_Requests.f a0_0 a0_1 a0_2 a0_3 (Int.tmod (wrap64 ((Int.tmod a1 200) + 200)) 200)).bind fun bt281 => (if t275.isNone = true then (if t280.isNone = true then (if bt281.2.isNone = true then (if x9_1 > t274 then (tithelaw20_DemandWindows.j1 k1 (Int.tmod (wrap64 ((Int.tmod a2 200) + 200)) 200) true a0_0 a0_1 a0_2 a0_3) else (if a0_0 = 0 then (none) else (if (Int.tmod (Int.tmod (wrap64 ((Int.tmod a1 200) + 200)) 200) a0_0) = 0 then (if x9_1 = t274 then (if t279 > (wrap64 (bt281.1 + t274)) then (tithelaw20_DemandWindows.j1 k1 (Int.tmod (wrap64 ((Int.tmod a2 200) + 200)) 200) true a0_0 a0_1 a0_2 a0_3) else (tithelaw20_DemandWindows.j1 k1 (Int.tmod (wrap64 ((Int.tmod a2 200) + 200)) 200) (decide (t279 < t274)) a0_0 a0_1 a0_2 a0_3)) else (tithelaw20_DemandWindows.j1 k1 (Int.tmod (wrap64 ((Int.tmod a2 200) + 200)) 200) true a0_0 a0_1 a0_2 a0_3)) else (if t279 > (wrap64 (bt281.1 + t274)) then (tithelaw20_DemandWindows.j1 k1 (Int.tmod (wrap64 ((Int.tmod a2 200) + 200)) 200) true a0_0 a0_1 a0_2 a0_3) else (tithelaw20_DemandWindows.j1 k1 (Int.tmod (wrap64 ((Int.tmod a2 200) + 200)) 200) (decide (t279 < t274)) a0_0 a0_1 a0_2 a0_3))))) else (tithelaw20_DemandWindows.j1 k1 (Int.tmod (wrap64 ((Int.tmod a2 200) + 200)) 200) true a0_0 a0_1 a0_2 a0_3)) else (tithelaw20_DemandWindows.j1 k1 (Int.tmod (wrap64 ((Int.tmod a2 200) + 200)) 200) true a0_0 a0_1 a0_2 a0_3)) else (tithelaw20_DemandWindows.j1 k1 (Int.tmod (wrap64 ((Int.tmod a2 200) + 200)) 200) true a0_0 a0_1 a0_2 a0_3))) = some r := H
     have A17 := Aside0.mk A170
     clear A170
     replace H := Option.bind_eq_some_iff.mp H
     obtain ⟨⟨t281, t282⟩, A180, H⟩ := H
     replace H : (if t275.isNone = true then (if t280.isNone = true then (if t282.isNone = true then (if x9_1 > t274 then (tithelaw20_DemandWindows.j1 k1 (Int.tmod (wrap64 ((Int.tmod a2 200) + 200)) 200) true a0_0 a0_1 a0_2 a0_3) else (if a0_0 = 0 then (none) else (if (Int.tmod (Int.tmod (wrap64 ((Int.tmod a1 200) + 200)) 200) a0_0) = 0 then (if x9_1 = t274 then (if t279 > (wrap64 (t281 + t274)) then (tithelaw20_DemandWindows.j1 k1 (Int.tmod (wrap64 ((Int.tmod a2 200) + 200)) 200) true a0_0 a0_1 a0_2 a0_3) else (tithelaw20_DemandWindows.j1 k1 (Int.tmod (wrap64 ((Int.tmod a2 200) + 200)) 200) (decide (t279 < t274)) a0_0 a0_1 a0_2 a0_3)) else (tithelaw20_DemandWindows.j1 k1 (Int.tmod (wrap64 ((Int.tmod a2 200) + 200)) 200) true a0_0 a0_1 a0_2 a0_3)) else (if t279 > (wrap64 (t281 + t274)) then (tithelaw20_DemandWindows.j1 k1 (Int.tmod (wrap64 ((Int.tmod a2 200) + 200)) 200) true a0_0 a0_1 a0_2 a0_3) else (tithelaw20_DemandWindows.j1 k1 (Int.tmod (wrap64 ((Int.tmod a2 200) + 200)) 200) (decide (t279 < t274)) a0_0 a0_1 a0_2 a0_3))))) else (tithelaw20_DemandWindows.j1 k1 (Int.tmod (wrap64 ((Int.tmod a2 200) + 200)) 200) true a0_0 a0_1 a0_2 a0_3)) else (tithelaw20_DemandWindows.j1 k1 (Int.tmod (wrap64 ((Int.tmod a2 200) + 200)) 200) true a0_0 a0_1 a0_2 a0_3)) else (tithelaw20_DemandWindows.j1 k1 (Int.tmod (wrap64 ((Int.tmod a2 200) + 200)) 200) true a0_0 a0_1 a0_2 a0_3)) = some r := H
     have A18 := Aside0.mk A180
     clear A180
     have HC19 := Aside0.mk H
     clear H
     have hcz20_0 : wr.cell? ⟨gb273, 0, none⟩ = some (.int .i64 a0_0) := (blk_cell BK273.out 0).trans (by rfl)
     have hcz20_1 : wr.cell? ⟨gb273, 1, none⟩ = some (.int .i64 a0_1) := (blk_cell BK273.out 1).trans (by rfl)
     have hcz20_2 : wr.cell? ⟨gb273, 2, none⟩ = some (.int .i64 a0_2) := (blk_cell BK273.out 2).trans (by rfl)
     have hcz20_3 : wr.cell? ⟨gb273, 3, none⟩ = some (.int .i64 a0_3) := (blk_cell BK273.out 3).trans (by rfl)
     have hfz20_0 := blk_frozen BK273.out 0
     have hfz20_1 := blk_frozen BK273.out 1
     have hfz20_2 := blk_frozen BK273.out 2
     have hfz20_3 := blk_frozen BK273.out 3
     go_upto_region 14 with (first | ((with_reducible refine gate_callee (f := 22) rfl ?_); refine goesL_ (some 64) rfl rfl Try.func22 (by kernel_rfl) rfl #[.agg #[.int .i64 a0_0, .int .i64 a0_1, .int .i64 a0_2, .int .i64 a0_3], .int .i64 (wrap64 ((Int.tmod (wrap64 ((Int.tmod a1 200) + 200)) 200) + (Int.tmod (wrap64 ((Int.tmod a2 200) + 200)) 200)))] rfl (by (try simp only [List.map_toArray, List.map_cons, List.map_nil]); first | done | rfl | (simp only [List.length_drop, List.length_take]; rfl)) ?_; (with_reducible refine (demand_Requests.calls a0_0 a0_1 a0_2 a0_3 (wrap64 ((Int.tmod (wrap64 ((Int.tmod a1 200) + 200)) 200) + (Int.tmod (wrap64 ((Int.tmod a2 200) + 200)) 200))) t279 t280 _ A17.out).mono ?_); rintro e w21 ⟨rfl, hb⟩; refine ⟨_, rfl, ?_⟩; have n0_ := Aside0.mk (blk_below (g := gb273) (o := .cells #[.int .i64 a0_0, .int .i64 a0_1, .int .i64 a0_2, .int .i64 a0_3] 43 (0, 0)) (by (with_reducible repeat (first | refine blk_drewN ?_ _ | refine blk_drew ?_ | refine blk_alloc ?_ _)); exact BK273.out) hb); have n1_ := Aside0.mk (below_step (by repeat (first | (with_reducible first | exact HB.out | apply below_alloc | apply pw_below_drewN | apply below_drew1 | refine below_set ?_ GE273.out) | exact HB.out)) hb); clear BK273; clear HB; have BK273 := n0_; have HB := n1_; clear n0_ n1_; (try clear hb); (try clear hb2); (try clear hk); (try clear hi); (try simp only [errW_none, errW_some]); have hcz22_0 : w21.cell? ⟨gb273, 0, none⟩ = some (.int .i64 a0_0) := (blk_cell BK273.out 0).trans (by rfl); have hcz22_1 : w21.cell? ⟨gb273, 1, none⟩ = some (.int .i64 a0_1) := (blk_cell BK273.out 1).trans (by rfl); have hcz22_2 : w21.cell? ⟨gb273, 2, none⟩ = some (.int .i64 a0_2) := (blk_cell BK273.out 2).trans (by rfl); have hcz22_3 : w21.cell? ⟨gb273, 3, none⟩ = some (.int .i64 a0_3) := (blk_cell BK273.out 3).trans (by rfl); have hfz22_0 := blk_frozen BK273.out 0; have hfz22_1 := blk_frozen BK273.out 1; have hfz22_2 := blk_frozen BK273.out 2; have hfz22_3 := blk_frozen BK273.out 3) | ((with_reducible refine gate_callee (f := 22) rfl ?_); refine goesL_ (some 70) rfl rfl Try.func22 (by kernel_rfl) rfl #[.agg #[.int .i64 a0_0, .int .i64 a0_1, .int .i64 a0_2, .int .i64 a0_3], .int .i64 (Int.tmod (wrap64 ((Int.tmod a1 200) + 200)) 200)] rfl (by (try simp only [List.map_toArray, List.map_cons, List.map_nil]); first | done | rfl | (simp only [List.length_drop, List.length_take]; rfl)) ?_; (with_reducible refine (demand_Requests.calls a0_0 a0_1 a0_2 a0_3 (Int.tmod (wrap64 ((Int.tmod a1 200) + 200)) 200) t281 t282 _ A18.out).mono ?_); rintro e w23 ⟨rfl, hb⟩; refine ⟨_, rfl, ?_⟩; have n0_ := Aside0.mk (blk_below (g := gb273) (o := .cells #[.int .i64 a0_0, .int .i64 a0_1, .int .i64 a0_2, .int .i64 a0_3] 43 (0, 0)) (by (with_reducible repeat (first | refine blk_drewN ?_ _ | refine blk_drew ?_ | refine blk_alloc ?_ _)); exact BK273.out) hb); have n1_ := Aside0.mk (below_step (by repeat (first | (with_reducible first | exact HB.out | apply below_alloc | apply pw_below_drewN | apply below_drew1 | refine below_set ?_ GE273.out) | exact HB.out)) hb); clear BK273; clear HB; have BK273 := n0_; have HB := n1_; clear n0_ n1_; (try clear hb); (try clear hb2); (try clear hk); (try clear hi); (try simp only [errW_none, errW_some])))
     (try simp only [Act.put, List.setIfInBounds_toArray, List.set_cons_zero, List.set_cons_succ])
     go_cut [111] (fun v111 wc => ∃ (kq : Nat) (x111_18 : Bool), v111 = .bool x111_18 ∧ Aside0 (tithelaw20_DemandWindows.j1 kq (Int.tmod (wrap64 ((Int.tmod a2 200) + 200)) 200) x111_18 a0_0 a0_1 a0_2 a0_3 = some r) ∧ Aside0 (kq ≤ k1) ∧ Aside0 (wc.heap[gb273]? = some (.cells #[.int .i64 a0_0, .int .i64 a0_1, .int .i64 a0_2, .int .i64 a0_3] 43 (0, 0))) ∧ Aside0 (Below w.heap.size w wc))
     case first =>
      have H := HC19.out
      clear HC19
      rcases t275 with _ | q283
      ·have H1 : (if t280.isNone = true then (if t282.isNone = true then (if x9_1 > t274 then (tithelaw20_DemandWindows.j1 k1 (Int.tmod (wrap64 ((Int.tmod a2 200) + 200)) 200) true a0_0 a0_1 a0_2 a0_3) else (if a0_0 = 0 then (none) else (if (Int.tmod (Int.tmod (wrap64 ((Int.tmod a1 200) + 200)) 200) a0_0) = 0 then (if x9_1 = t274 then (if t279 > (wrap64 (t281 + t274)) then (tithelaw20_DemandWindows.j1 k1 (Int.tmod (wrap64 ((Int.tmod a2 200) + 200)) 200) true a0_0 a0_1 a0_2 a0_3) else (tithelaw20_DemandWindows.j1 k1 (Int.tmod (wrap64 ((Int.tmod a2 200) + 200)) 200) (decide (t279 < t274)) a0_0 a0_1 a0_2 a0_3)) else (tithelaw20_DemandWindows.j1 k1 (Int.tmod (wrap64 ((Int.tmod a2 200) + 200)) 200) true a0_0 a0_1 a0_2 a0_3)) else (if t279 > (wrap64 (t281 + t274)) then (tithelaw20_DemandWindows.j1 k1 (Int.tmod (wrap64 ((Int.tmod a2 200) + 200)) 200) true a0_0 a0_1 a0_2 a0_3) else (tithelaw20_DemandWindows.j1 k1 (Int.tmod (wrap64 ((Int.tmod a2 200) + 200)) 200) (decide (t279 < t274)) a0_0 a0_1 a0_2 a0_3))))) else (tithelaw20_DemandWindows.j1 k1 (Int.tmod (wrap64 ((Int.tmod a2 200) + 200)) 200) true a0_0 a0_1 a0_2 a0_3)) else (tithelaw20_DemandWindows.j1 k1 (Int.tmod (wrap64 ((Int.tmod a2 200) + 200)) 200) true a0_0 a0_1 a0_2 a0_3)) = some r := by rw [if_pos (show (none : Option Int).isNone = true by rfl)] at H; exact H
       clear H
       have H := H1
       clear H1
       try simp only [errW_none, errW_some]
       rcases t280 with _ | q284
       ·have H1 : (if t282.isNone = true then (if x9_1 > t274 then (tithelaw20_DemandWindows.j1 k1 (Int.tmod (wrap64 ((Int.tmod a2 200) + 200)) 200) true a0_0 a0_1 a0_2 a0_3) else (if a0_0 = 0 then (none) else (if (Int.tmod (Int.tmod (wrap64 ((Int.tmod a1 200) + 200)) 200) a0_0) = 0 then (if x9_1 = t274 then (if t279 > (wrap64 (t281 + t274)) then (tithelaw20_DemandWindows.j1 k1 (Int.tmod (wrap64 ((Int.tmod a2 200) + 200)) 200) true a0_0 a0_1 a0_2 a0_3) else (tithelaw20_DemandWindows.j1 k1 (Int.tmod (wrap64 ((Int.tmod a2 200) + 200)) 200) (decide (t279 < t274)) a0_0 a0_1 a0_2 a0_3)) else (tithelaw20_DemandWindows.j1 k1 (Int.tmod (wrap64 ((Int.tmod a2 200) + 200)) 200) true a0_0 a0_1 a0_2 a0_3)) else (if t279 > (wrap64 (t281 + t274)) then (tithelaw20_DemandWindows.j1 k1 (Int.tmod (wrap64 ((Int.tmod a2 200) + 200)) 200) true a0_0 a0_1 a0_2 a0_3) else (tithelaw20_DemandWindows.j1 k1 (Int.tmod (wrap64 ((Int.tmod a2 200) + 200)) 200) (decide (t279 < t274)) a0_0 a0_1 a0_2 a0_3))))) else (tithelaw20_DemandWindows.j1 k1 (Int.tmod (wrap64 ((Int.tmod a2 200) + 200)) 200) true a0_0 a0_1 a0_2 a0_3)) = some r := by rw [if_pos (show (none : Option Int).isNone = true by rfl)] at H; exact H
        clear H
        have H := H1
        clear H1
        try simp only [errW_none, errW_some]
        rcases t282 with _ | q285
        ·have H1 : (if x9_1 > t274 then (tithelaw20_DemandWindows.j1 k1 (Int.tmod (wrap64 ((Int.tmod a2 200) + 200)) 200) true a0_0 a0_1 a0_2 a0_3) else (if a0_0 = 0 then (none) else (if (Int.tmod (Int.tmod (wrap64 ((Int.tmod a1 200) + 200)) 200) a0_0) = 0 then (if x9_1 = t274 then (if t279 > (wrap64 (t281 + t274)) then (tithelaw20_DemandWindows.j1 k1 (Int.tmod (wrap64 ((Int.tmod a2 200) + 200)) 200) true a0_0 a0_1 a0_2 a0_3) else (tithelaw20_DemandWindows.j1 k1 (Int.tmod (wrap64 ((Int.tmod a2 200) + 200)) 200) (decide (t279 < t274)) a0_0 a0_1 a0_2 a0_3)) else (tithelaw20_DemandWindows.j1 k1 (Int.tmod (wrap64 ((Int.tmod a2 200) + 200)) 200) true a0_0 a0_1 a0_2 a0_3)) else (if t279 > (wrap64 (t281 + t274)) then (tithelaw20_DemandWindows.j1 k1 (Int.tmod (wrap64 ((Int.tmod a2 200) + 200)) 200) true a0_0 a0_1 a0_2 a0_3) else (tithelaw20_DemandWindows.j1 k1 (Int.tmod (wrap64 ((Int.tmod a2 200) + 200)) 200) (decide (t279 < t274)) a0_0 a0_1 a0_2 a0_3))))) = some r := by rw [if_pos (show (none : Option Int).isNone = true by rfl)] at H; exact H
         clear H
         have H := H1
         clear H1
         try simp only [errW_none, errW_some]
         by_cases c24 : x9_1 > t274
         ·rw [if_pos c24] at H
          have c24b0 : decide (t274 < x9_1) = true := decide_eq_true c24
          clear c24
          (first | rw [c24b0] | (simp only [i64_w, i32_w]; rw [c24b0]) | skip)
          have H' := Aside0.mk H
          clear H
          go_wp2
          go_meet
          case rel => exact ⟨_, (true), (by first | rfl | (simp; done) | (simp [*]; done)), H', ⟨by have := HK1.out; first | omega | exact Nat.le_refl _⟩, ⟨by (with_reducible repeat (first | refine blk_drewN ?_ _ | refine blk_drew ?_ | refine blk_alloc ?_ _)); exact BK273.out⟩, ⟨by repeat (first | (with_reducible first | exact HB.out | apply below_alloc | apply pw_below_drewN | apply below_drew1 | refine below_set ?_ GE273.out) | exact HB.out)⟩⟩
         ·rw [if_neg c24] at H
          have c24b0 : decide (t274 < x9_1) = false := decide_eq_false c24
          clear c24
          (first | rw [c24b0] | (simp only [i64_w, i32_w]; rw [c24b0]) | skip)
          by_cases c25 : a0_0 = 0
          ·rw [if_pos c25] at H
           exact absurd H (by simp)
          ·rw [if_neg c25] at H
           have c25b0 : (a0_0 == 0) = false := beq_eq_false_iff_ne.mpr c25
           have c25b1 : (a0_0 != 0) = true := bne_iff_ne.mpr c25
           by_cases c26 : (Int.tmod (Int.tmod (wrap64 ((Int.tmod a1 200) + 200)) 200) a0_0) = 0
           ·rw [if_pos c26] at H
            have c26b0 : ((Int.tmod (Int.tmod (wrap64 ((Int.tmod a1 200) + 200)) 200) a0_0) == 0) = true := beq_iff_eq.mpr c26
            have c26b1 : ((Int.tmod (Int.tmod (wrap64 ((Int.tmod a1 200) + 200)) 200) a0_0) != 0) = false := bne_eq_false_iff_eq.mpr c26
            clear c26
            by_cases c27 : x9_1 = t274
            ·rw [if_pos c27] at H
             have c27b0 : (x9_1 == t274) = true := beq_iff_eq.mpr c27
             have c27b1 : (x9_1 != t274) = false := bne_eq_false_iff_eq.mpr c27
             clear c27
             by_cases c28 : t279 > (wrap64 (t281 + t274))
             ·rw [if_pos c28] at H
              have c28b0 : decide ((wrap64 (t281 + t274)) < t279) = true := decide_eq_true c28
              clear c28
              have H' := Aside0.mk H
              clear H
              have hcz29_0 : w23.cell? ⟨gb273, 0, none⟩ = some (.int .i64 a0_0) := (blk_cell BK273.out 0).trans (by rfl)
              have hcz29_1 : w23.cell? ⟨gb273, 1, none⟩ = some (.int .i64 a0_1) := (blk_cell BK273.out 1).trans (by rfl)
              have hcz29_2 : w23.cell? ⟨gb273, 2, none⟩ = some (.int .i64 a0_2) := (blk_cell BK273.out 2).trans (by rfl)
              have hcz29_3 : w23.cell? ⟨gb273, 3, none⟩ = some (.int .i64 a0_3) := (blk_cell BK273.out 3).trans (by rfl)
              have hfz29_0 := blk_frozen BK273.out 0
              have hfz29_1 := blk_frozen BK273.out 1
              have hfz29_2 := blk_frozen BK273.out 2
              have hfz29_3 := blk_frozen BK273.out 3
              go_wp2
              go_meet
              case rel => exact ⟨_, (true), (by first | rfl | (simp; done) | (simp [*]; done)), H', ⟨by have := HK1.out; first | omega | exact Nat.le_refl _⟩, ⟨by (with_reducible repeat (first | refine blk_drewN ?_ _ | refine blk_drew ?_ | refine blk_alloc ?_ _)); exact BK273.out⟩, ⟨by repeat (first | (with_reducible first | exact HB.out | apply below_alloc | apply pw_below_drewN | apply below_drew1 | refine below_set ?_ GE273.out) | exact HB.out)⟩⟩
             ·rw [if_neg c28] at H
              have c28b0 : decide ((wrap64 (t281 + t274)) < t279) = false := decide_eq_false c28
              clear c28
              have H' := Aside0.mk H
              clear H
              have hcz30_0 : w23.cell? ⟨gb273, 0, none⟩ = some (.int .i64 a0_0) := (blk_cell BK273.out 0).trans (by rfl)
              have hcz30_1 : w23.cell? ⟨gb273, 1, none⟩ = some (.int .i64 a0_1) := (blk_cell BK273.out 1).trans (by rfl)
              have hcz30_2 : w23.cell? ⟨gb273, 2, none⟩ = some (.int .i64 a0_2) := (blk_cell BK273.out 2).trans (by rfl)
              have hcz30_3 : w23.cell? ⟨gb273, 3, none⟩ = some (.int .i64 a0_3) := (blk_cell BK273.out 3).trans (by rfl)
              have hfz30_0 := blk_frozen BK273.out 0
              have hfz30_1 := blk_frozen BK273.out 1
              have hfz30_2 := blk_frozen BK273.out 2
              have hfz30_3 := blk_frozen BK273.out 3
              go_wp2
              go_meet
              case rel => exact ⟨_, (decide (t279 < t274)), (by first | rfl | (simp; done) | (simp [*]; done)), H', ⟨by have := HK1.out; first | omega | exact Nat.le_refl _⟩, ⟨by (with_reducible repeat (first | refine blk_drewN ?_ _ | refine blk_drew ?_ | refine blk_alloc ?_ _)); exact BK273.out⟩, ⟨by repeat (first | (with_reducible first | exact HB.out | apply below_alloc | apply pw_below_drewN | apply below_drew1 | refine below_set ?_ GE273.out) | exact HB.out)⟩⟩
            ·rw [if_neg c27] at H
             have c27b0 : (x9_1 == t274) = false := beq_eq_false_iff_ne.mpr c27
             have c27b1 : (x9_1 != t274) = true := bne_iff_ne.mpr c27
             have H' := Aside0.mk H
             clear H
             have hcz31_0 : w23.cell? ⟨gb273, 0, none⟩ = some (.int .i64 a0_0) := (blk_cell BK273.out 0).trans (by rfl)
             have hcz31_1 : w23.cell? ⟨gb273, 1, none⟩ = some (.int .i64 a0_1) := (blk_cell BK273.out 1).trans (by rfl)
             have hcz31_2 : w23.cell? ⟨gb273, 2, none⟩ = some (.int .i64 a0_2) := (blk_cell BK273.out 2).trans (by rfl)
             have hcz31_3 : w23.cell? ⟨gb273, 3, none⟩ = some (.int .i64 a0_3) := (blk_cell BK273.out 3).trans (by rfl)
             have hfz31_0 := blk_frozen BK273.out 0
             have hfz31_1 := blk_frozen BK273.out 1
             have hfz31_2 := blk_frozen BK273.out 2
             have hfz31_3 := blk_frozen BK273.out 3
             go_wp2
             go_meet
             case rel => exact ⟨_, (true), (by first | rfl | (simp; done) | (simp [*]; done)), H', ⟨by have := HK1.out; first | omega | exact Nat.le_refl _⟩, ⟨by (with_reducible repeat (first | refine blk_drewN ?_ _ | refine blk_drew ?_ | refine blk_alloc ?_ _)); exact BK273.out⟩, ⟨by repeat (first | (with_reducible first | exact HB.out | apply below_alloc | apply pw_below_drewN | apply below_drew1 | refine below_set ?_ GE273.out) | exact HB.out)⟩⟩
           ·rw [if_neg c26] at H
            have c26b0 : ((Int.tmod (Int.tmod (wrap64 ((Int.tmod a1 200) + 200)) 200) a0_0) == 0) = false := beq_eq_false_iff_ne.mpr c26
            have c26b1 : ((Int.tmod (Int.tmod (wrap64 ((Int.tmod a1 200) + 200)) 200) a0_0) != 0) = true := bne_iff_ne.mpr c26
            by_cases c32 : t279 > (wrap64 (t281 + t274))
            ·rw [if_pos c32] at H
             have c32b0 : decide ((wrap64 (t281 + t274)) < t279) = true := decide_eq_true c32
             clear c32
             have H' := Aside0.mk H
             clear H
             have hcz33_0 : w23.cell? ⟨gb273, 0, none⟩ = some (.int .i64 a0_0) := (blk_cell BK273.out 0).trans (by rfl)
             have hcz33_1 : w23.cell? ⟨gb273, 1, none⟩ = some (.int .i64 a0_1) := (blk_cell BK273.out 1).trans (by rfl)
             have hcz33_2 : w23.cell? ⟨gb273, 2, none⟩ = some (.int .i64 a0_2) := (blk_cell BK273.out 2).trans (by rfl)
             have hcz33_3 : w23.cell? ⟨gb273, 3, none⟩ = some (.int .i64 a0_3) := (blk_cell BK273.out 3).trans (by rfl)
             have hfz33_0 := blk_frozen BK273.out 0
             have hfz33_1 := blk_frozen BK273.out 1
             have hfz33_2 := blk_frozen BK273.out 2
             have hfz33_3 := blk_frozen BK273.out 3
             go_wp2
             go_meet
             case rel => exact ⟨_, (true), (by first | rfl | (simp; done) | (simp [*]; done)), H', ⟨by have := HK1.out; first | omega | exact Nat.le_refl _⟩, ⟨by (with_reducible repeat (first | refine blk_drewN ?_ _ | refine blk_drew ?_ | refine blk_alloc ?_ _)); exact BK273.out⟩, ⟨by repeat (first | (with_reducible first | exact HB.out | apply below_alloc | apply pw_below_drewN | apply below_drew1 | refine below_set ?_ GE273.out) | exact HB.out)⟩⟩
            ·rw [if_neg c32] at H
             have c32b0 : decide ((wrap64 (t281 + t274)) < t279) = false := decide_eq_false c32
             clear c32
             have H' := Aside0.mk H
             clear H
             have hcz34_0 : w23.cell? ⟨gb273, 0, none⟩ = some (.int .i64 a0_0) := (blk_cell BK273.out 0).trans (by rfl)
             have hcz34_1 : w23.cell? ⟨gb273, 1, none⟩ = some (.int .i64 a0_1) := (blk_cell BK273.out 1).trans (by rfl)
             have hcz34_2 : w23.cell? ⟨gb273, 2, none⟩ = some (.int .i64 a0_2) := (blk_cell BK273.out 2).trans (by rfl)
             have hcz34_3 : w23.cell? ⟨gb273, 3, none⟩ = some (.int .i64 a0_3) := (blk_cell BK273.out 3).trans (by rfl)
             have hfz34_0 := blk_frozen BK273.out 0
             have hfz34_1 := blk_frozen BK273.out 1
             have hfz34_2 := blk_frozen BK273.out 2
             have hfz34_3 := blk_frozen BK273.out 3
             go_wp2
             go_meet
             case rel => exact ⟨_, (decide (t279 < t274)), (by first | rfl | (simp; done) | (simp [*]; done)), H', ⟨by have := HK1.out; first | omega | exact Nat.le_refl _⟩, ⟨by (with_reducible repeat (first | refine blk_drewN ?_ _ | refine blk_drew ?_ | refine blk_alloc ?_ _)); exact BK273.out⟩, ⟨by repeat (first | (with_reducible first | exact HB.out | apply below_alloc | apply pw_below_drewN | apply below_drew1 | refine below_set ?_ GE273.out) | exact HB.out)⟩⟩
        ·have H1 : (tithelaw20_DemandWindows.j1 k1 (Int.tmod (wrap64 ((Int.tmod a2 200) + 200)) 200) true a0_0 a0_1 a0_2 a0_3) = some r := by rw [if_neg (show ¬ (some q285).isNone = true by simp)] at H; exact H
         clear H
         have H := H1
         clear H1
         try simp only [errW_none, errW_some]
         have H' := Aside0.mk H
         clear H
         go_wp2
         go_meet
         case rel => exact ⟨_, (true), (by first | rfl | (simp; done) | (simp [*]; done)), H', ⟨by have := HK1.out; first | omega | exact Nat.le_refl _⟩, ⟨by (with_reducible repeat (first | refine blk_drewN ?_ _ | refine blk_drew ?_ | refine blk_alloc ?_ _)); exact BK273.out⟩, ⟨by repeat (first | (with_reducible first | exact HB.out | apply below_alloc | apply pw_below_drewN | apply below_drew1 | refine below_set ?_ GE273.out) | exact HB.out)⟩⟩
       ·have H1 : (tithelaw20_DemandWindows.j1 k1 (Int.tmod (wrap64 ((Int.tmod a2 200) + 200)) 200) true a0_0 a0_1 a0_2 a0_3) = some r := by rw [if_neg (show ¬ (some q284).isNone = true by simp)] at H; exact H
        clear H
        have H := H1
        clear H1
        try simp only [errW_none, errW_some]
        have H' := Aside0.mk H
        clear H
        go_wp2
        go_meet
        case rel => exact ⟨_, (true), (by first | rfl | (simp; done) | (simp [*]; done)), H', ⟨by have := HK1.out; first | omega | exact Nat.le_refl _⟩, ⟨by (with_reducible repeat (first | refine blk_drewN ?_ _ | refine blk_drew ?_ | refine blk_alloc ?_ _)); exact BK273.out⟩, ⟨by repeat (first | (with_reducible first | exact HB.out | apply below_alloc | apply pw_below_drewN | apply below_drew1 | refine below_set ?_ GE273.out) | exact HB.out)⟩⟩
      ·have H1 : (tithelaw20_DemandWindows.j1 k1 (Int.tmod (wrap64 ((Int.tmod a2 200) + 200)) 200) true a0_0 a0_1 a0_2 a0_3) = some r := by rw [if_neg (show ¬ (some q283).isNone = true by simp)] at H; exact H
       clear H
       have H := H1
       clear H1
       try simp only [errW_none, errW_some]
       have H' := Aside0.mk H
       clear H
       go_wp2
       go_meet
       case rel => exact ⟨_, (true), (by first | rfl | (simp; done) | (simp [*]; done)), H', ⟨by have := HK1.out; first | omega | exact Nat.le_refl _⟩, ⟨by (with_reducible repeat (first | refine blk_drewN ?_ _ | refine blk_drew ?_ | refine blk_alloc ?_ _)); exact BK273.out⟩, ⟨by repeat (first | (with_reducible first | exact HB.out | apply below_alloc | apply pw_below_drewN | apply below_drew1 | refine below_set ?_ GE273.out) | exact HB.out)⟩⟩
     case rest =>
      clear HC19
      try clear c1
      try clear c2
      try clear p2
      try clear q2
      try clear c3
      try clear c6
      try clear c6b0
      try clear c6b1
      try clear p6
      try clear c12
      try clear c12b0
      try clear c13
      try clear c13b0
      try clear c13b1
      try clear c14
      try clear c14b0
      try clear c14b1
      try clear c22
      try clear c24
      try clear c24b0
      try clear c25
      try clear c25b0
      try clear c25b1
      try clear c26
      try clear c26b0
      try clear c26b1
      try clear c27
      try clear c27b0
      try clear c27b1
      try clear c28
      try clear c28b0
      try clear q28
      try clear c29
      try clear c32
      try clear c32b0
      try clear hcz10_0
      try clear hcz10_1
      try clear hcz10_2
      try clear hcz10_3
      try clear hcz15_0
      try clear hcz15_1
      try clear hcz15_2
      try clear hcz15_3
      try clear hcz16_0
      try clear hcz16_1
      try clear hcz16_2
      try clear hcz16_3
      try clear hcz20_0
      try clear hcz20_1
      try clear hcz20_2
      try clear hcz20_3
      try clear hcz22_0
      try clear hcz22_1
      try clear hcz22_2
      try clear hcz22_3
      try clear hcz29_0
      try clear hcz29_1
      try clear hcz29_2
      try clear hcz29_3
      try clear hcz30_0
      try clear hcz30_1
      try clear hcz30_2
      try clear hcz30_3
      try clear hcz31_0
      try clear hcz31_1
      try clear hcz31_2
      try clear hcz31_3
      try clear hcz33_0
      try clear hcz33_1
      try clear hcz33_2
      try clear hcz33_3
      try clear hcz34_0
      try clear hcz34_1
      try clear hcz34_2
      try clear hcz34_3
      try clear hcz8_0
      try clear hcz8_1
      try clear hcz8_2
      try clear hcz8_3
      try clear hfz10_0
      try clear hfz10_1
      try clear hfz10_2
      try clear hfz10_3
      try clear hfz15_0
      try clear hfz15_1
      try clear hfz15_2
      try clear hfz15_3
      try clear hfz16_0
      try clear hfz16_1
      try clear hfz16_2
      try clear hfz16_3
      try clear hfz20_0
      try clear hfz20_1
      try clear hfz20_2
      try clear hfz20_3
      try clear hfz22_0
      try clear hfz22_1
      try clear hfz22_2
      try clear hfz22_3
      try clear hfz29_0
      try clear hfz29_1
      try clear hfz29_2
      try clear hfz29_3
      try clear hfz30_0
      try clear hfz30_1
      try clear hfz30_2
      try clear hfz30_3
      try clear hfz31_0
      try clear hfz31_1
      try clear hfz31_2
      try clear hfz31_3
      try clear hfz33_0
      try clear hfz33_1
      try clear hfz33_2
      try clear hfz33_3
      try clear hfz34_0
      try clear hfz34_1
      try clear hfz34_2
      try clear hfz34_3
      try clear hfz8_0
      try clear hfz8_1
      try clear hfz8_2
      try clear hfz8_3
      try clear p2
      try clear p6
      try clear q283
      try clear q284
      try clear q285
      obtain ⟨kq, x111_18, rfl, HA, HJ18, BK273, HB⟩ := hcut
      cases kq with
      | zero => exact absurd HA.out (by simp [tithelaw20_DemandWindows.j1])
      | succ kj18 =>
       have H := HA.out
       clear HA
       simp only [tithelaw20_DemandWindows.j1] at H
       by_cases c35 : x111_18 = true
       ·subst c35
        have H1 : (some false) = some r := by rw [if_pos rfl] at H; exact H
        clear H
        have H := H1
        clear H1
        obtain rfl := Option.some.inj H
        go_wp2
        go_ret
        exact ⟨by first | rfl | (simp [errW_none, errW_some] <;> rfl) | (simp [*, errW_none, errW_some] <;> rfl), by repeat (first | (with_reducible first | exact HB.out | apply below_alloc | apply pw_below_drewN | apply below_drew1 | refine below_set ?_ GE273.out) | exact HB.out)⟩
       ·replace c35 := Bool.eq_false_iff.mpr c35
        subst c35
        have H1 : ((demand_Due.f a0_0 a0_1 a0_2 a0_3 (wrap64 (a0_2 + (Int.tmod (wrap64 ((Int.tmod a2 200) + 200)) 200)))).bind fun bt286 => ((demand_Due.f a0_0 a0_1 a0_2 a0_3 (wrap64 ((wrap64 (a0_2 + (Int.tmod (wrap64 ((Int.tmod a2 200) + 200)) 200))) + a0_0))).bind fun bt288 => (if bt286.2.isNone = true then (if bt288.2.isNone = true then (if bt288.1 = (wrap64 (bt286.1 + a0_1)) then ((tithelaw20_works.f kj18).bind fun t292 => (some t292)) else (some false)) else (some false)) else (some false)))) = some r := by rw [if_neg (show ¬ (false = true) by decide)] at H; exact H
        clear H
        have H := H1
        clear H1
        replace H := Option.bind_eq_some_iff.mp H
        obtain ⟨⟨t286, t287⟩, A360, H⟩ := H
        replace H : ((demand_Due.f a0_0 a0_1 a0_2 a0_3 (wrap64 ((wrap64 (a0_2 + (Int.tmod (wrap64 ((Int.tmod a2 200) + 200)) 200))) + a0_0))).bind fun bt288 => (if t287.isNone = true then (if bt288.2.isNone = true then (if bt288.1 = (wrap64 (t286 + a0_1)) then ((tithelaw20_works.f kj18).bind fun t292 => (some t292)) else (some false)) else (some false)) else (some false))) = some r := H
        have A36 := Aside0.mk A360
        clear A360
        replace H := Option.bind_eq_some_iff.mp H
        obtain ⟨⟨t288, t289⟩, A370, H⟩ := H
        replace H : (if t287.isNone = true then (if t289.isNone = true then (if t288 = (wrap64 (t286 + a0_1)) then ((tithelaw20_works.f kj18).bind fun t292 => (some t292)) else (some false)) else (some false)) else (some false)) = some r := H
        have A37 := Aside0.mk A370
        clear A370
        rcases t287 with _ | q290
        ·have H1 : (if t289.isNone = true then (if t288 = (wrap64 (t286 + a0_1)) then ((tithelaw20_works.f kj18).bind fun t292 => (some t292)) else (some false)) else (some false)) = some r := by rw [if_pos (show (none : Option Int).isNone = true by rfl)] at H; exact H
         clear H
         have H := H1
         clear H1
         try simp only [errW_none, errW_some]
         rcases t289 with _ | q291
         ·have H1 : (if t288 = (wrap64 (t286 + a0_1)) then ((tithelaw20_works.f kj18).bind fun t292 => (some t292)) else (some false)) = some r := by rw [if_pos (show (none : Option Int).isNone = true by rfl)] at H; exact H
          clear H
          have H := H1
          clear H1
          try simp only [errW_none, errW_some]
          by_cases c38 : t288 = (wrap64 (t286 + a0_1))
          ·rw [if_pos c38] at H
           have c38b0 : (t288 == (wrap64 (t286 + a0_1))) = true := beq_iff_eq.mpr c38
           have c38b1 : (t288 != (wrap64 (t286 + a0_1))) = false := bne_eq_false_iff_eq.mpr c38
           clear c38
           replace H := Option.bind_eq_some_iff.mp H
           obtain ⟨t292, A390, H⟩ := H
           replace H : (some t292) = some r := H
           have A39 := Aside0.mk A390
           clear A390
           obtain rfl := Option.some.inj H
           have hcz40_0 : wc.cell? ⟨gb273, 0, none⟩ = some (.int .i64 a0_0) := (blk_cell BK273.out 0).trans (by rfl)
           have hcz40_1 : wc.cell? ⟨gb273, 1, none⟩ = some (.int .i64 a0_1) := (blk_cell BK273.out 1).trans (by rfl)
           have hcz40_2 : wc.cell? ⟨gb273, 2, none⟩ = some (.int .i64 a0_2) := (blk_cell BK273.out 2).trans (by rfl)
           have hcz40_3 : wc.cell? ⟨gb273, 3, none⟩ = some (.int .i64 a0_3) := (blk_cell BK273.out 3).trans (by rfl)
           have hfz40_0 := blk_frozen BK273.out 0
           have hfz40_1 := blk_frozen BK273.out 1
           have hfz40_2 := blk_frozen BK273.out 2
           have hfz40_3 := blk_frozen BK273.out 3
           go_wp2_with (first | ((with_reducible refine gate_callee (f := 24) rfl ?_); refine goesL_ (some 118) rfl rfl Try.func24 (by kernel_rfl) rfl #[.agg #[.int .i64 a0_0, .int .i64 a0_1, .int .i64 a0_2, .int .i64 a0_3], .int .i64 (wrap64 (a0_2 + (Int.tmod (wrap64 ((Int.tmod a2 200) + 200)) 200)))] rfl (by (try simp only [List.map_toArray, List.map_cons, List.map_nil]); first | done | rfl | (simp only [List.length_drop, List.length_take]; rfl)) ?_; (with_reducible refine (demand_Due.calls a0_0 a0_1 a0_2 a0_3 (wrap64 (a0_2 + (Int.tmod (wrap64 ((Int.tmod a2 200) + 200)) 200))) t286 none _ A36.out).mono ?_); rintro e w41 ⟨rfl, hb⟩; refine ⟨_, rfl, ?_⟩; have n0_ := Aside0.mk (blk_below (g := gb273) (o := .cells #[.int .i64 a0_0, .int .i64 a0_1, .int .i64 a0_2, .int .i64 a0_3] 43 (0, 0)) (by (with_reducible repeat (first | refine blk_drewN ?_ _ | refine blk_drew ?_ | refine blk_alloc ?_ _)); exact BK273.out) hb); have n1_ := Aside0.mk (below_step (by repeat (first | (with_reducible first | exact HB.out | apply below_alloc | apply pw_below_drewN | apply below_drew1 | refine below_set ?_ GE273.out) | exact HB.out)) hb); clear BK273; clear HB; have BK273 := n0_; have HB := n1_; clear n0_ n1_; (try clear hb); (try clear hb2); (try clear hk); (try clear hi); (try simp only [errW_none, errW_some]); have hcz42_0 : w41.cell? ⟨gb273, 0, none⟩ = some (.int .i64 a0_0) := (blk_cell BK273.out 0).trans (by rfl); have hcz42_1 : w41.cell? ⟨gb273, 1, none⟩ = some (.int .i64 a0_1) := (blk_cell BK273.out 1).trans (by rfl); have hcz42_2 : w41.cell? ⟨gb273, 2, none⟩ = some (.int .i64 a0_2) := (blk_cell BK273.out 2).trans (by rfl); have hcz42_3 : w41.cell? ⟨gb273, 3, none⟩ = some (.int .i64 a0_3) := (blk_cell BK273.out 3).trans (by rfl); have hfz42_0 := blk_frozen BK273.out 0; have hfz42_1 := blk_frozen BK273.out 1; have hfz42_2 := blk_frozen BK273.out 2; have hfz42_3 := blk_frozen BK273.out 3) | ((with_reducible refine gate_callee (f := 24) rfl ?_); refine goesL_ (some 130) rfl rfl Try.func24 (by kernel_rfl) rfl #[.agg #[.int .i64 a0_0, .int .i64 a0_1, .int .i64 a0_2, .int .i64 a0_3], .int .i64 (wrap64 ((wrap64 (a0_2 + (Int.tmod (wrap64 ((Int.tmod a2 200) + 200)) 200))) + a0_0))] rfl (by (try simp only [List.map_toArray, List.map_cons, List.map_nil]); first | done | rfl | (simp only [List.length_drop, List.length_take]; rfl)) ?_; (with_reducible refine (demand_Due.calls a0_0 a0_1 a0_2 a0_3 (wrap64 ((wrap64 (a0_2 + (Int.tmod (wrap64 ((Int.tmod a2 200) + 200)) 200))) + a0_0)) t288 none _ A37.out).mono ?_); rintro e w43 ⟨rfl, hb⟩; refine ⟨_, rfl, ?_⟩; have n0_ := Aside0.mk (blk_below (g := gb273) (o := .cells #[.int .i64 a0_0, .int .i64 a0_1, .int .i64 a0_2, .int .i64 a0_3] 43 (0, 0)) (by (with_reducible repeat (first | refine blk_drewN ?_ _ | refine blk_drew ?_ | refine blk_alloc ?_ _)); exact BK273.out) hb); have n1_ := Aside0.mk (below_step (by repeat (first | (with_reducible first | exact HB.out | apply below_alloc | apply pw_below_drewN | apply below_drew1 | refine below_set ?_ GE273.out) | exact HB.out)) hb); clear BK273; clear HB; have BK273 := n0_; have HB := n1_; clear n0_ n1_; (try clear hb); (try clear hb2); (try clear hk); (try clear hi); (try simp only [errW_none, errW_some]); have hcz44_0 : w43.cell? ⟨gb273, 0, none⟩ = some (.int .i64 a0_0) := (blk_cell BK273.out 0).trans (by rfl); have hcz44_1 : w43.cell? ⟨gb273, 1, none⟩ = some (.int .i64 a0_1) := (blk_cell BK273.out 1).trans (by rfl); have hcz44_2 : w43.cell? ⟨gb273, 2, none⟩ = some (.int .i64 a0_2) := (blk_cell BK273.out 2).trans (by rfl); have hcz44_3 : w43.cell? ⟨gb273, 3, none⟩ = some (.int .i64 a0_3) := (blk_cell BK273.out 3).trans (by rfl); have hfz44_0 := blk_frozen BK273.out 0; have hfz44_1 := blk_frozen BK273.out 1; have hfz44_2 := blk_frozen BK273.out 2; have hfz44_3 := blk_frozen BK273.out 3) | (go_at_call 20; (with_reducible refine (tithelaw20_works.calls kj18  t292 _ A39.out).mono ?_); rintro e w45 ⟨rfl, hb⟩; have n0_ := Aside0.mk (blk_below (g := gb273) (o := .cells #[.int .i64 a0_0, .int .i64 a0_1, .int .i64 a0_2, .int .i64 a0_3] 43 (0, 0)) (by (with_reducible repeat (first | refine blk_drewN ?_ _ | refine blk_drew ?_ | refine blk_alloc ?_ _)); exact BK273.out) hb); have n1_ := Aside0.mk (below_step (by repeat (first | (with_reducible first | exact HB.out | apply below_alloc | apply pw_below_drewN | apply below_drew1 | refine below_set ?_ GE273.out) | exact HB.out)) hb); clear BK273; clear HB; have BK273 := n0_; have HB := n1_; clear n0_ n1_; (try clear hb); (try clear hb2); (try clear hk); (try clear hi)))
           go_ret
           exact ⟨by first | rfl | (simp [errW_none, errW_some] <;> rfl) | (simp [*, errW_none, errW_some] <;> rfl), by repeat (first | (with_reducible first | exact HB.out | apply below_alloc | apply pw_below_drewN | apply below_drew1 | refine below_set ?_ GE273.out) | exact HB.out)⟩
          ·rw [if_neg c38] at H
           have c38b0 : (t288 == (wrap64 (t286 + a0_1))) = false := beq_eq_false_iff_ne.mpr c38
           have c38b1 : (t288 != (wrap64 (t286 + a0_1))) = true := bne_iff_ne.mpr c38
           obtain rfl := Option.some.inj H
           have hcz46_0 : wc.cell? ⟨gb273, 0, none⟩ = some (.int .i64 a0_0) := (blk_cell BK273.out 0).trans (by rfl)
           have hcz46_1 : wc.cell? ⟨gb273, 1, none⟩ = some (.int .i64 a0_1) := (blk_cell BK273.out 1).trans (by rfl)
           have hcz46_2 : wc.cell? ⟨gb273, 2, none⟩ = some (.int .i64 a0_2) := (blk_cell BK273.out 2).trans (by rfl)
           have hcz46_3 : wc.cell? ⟨gb273, 3, none⟩ = some (.int .i64 a0_3) := (blk_cell BK273.out 3).trans (by rfl)
           have hfz46_0 := blk_frozen BK273.out 0
           have hfz46_1 := blk_frozen BK273.out 1
           have hfz46_2 := blk_frozen BK273.out 2
           have hfz46_3 := blk_frozen BK273.out 3
           go_wp2_with (first | ((with_reducible refine gate_callee (f := 24) rfl ?_); refine goesL_ (some 118) rfl rfl Try.func24 (by kernel_rfl) rfl #[.agg #[.int .i64 a0_0, .int .i64 a0_1, .int .i64 a0_2, .int .i64 a0_3], .int .i64 (wrap64 (a0_2 + (Int.tmod (wrap64 ((Int.tmod a2 200) + 200)) 200)))] rfl (by (try simp only [List.map_toArray, List.map_cons, List.map_nil]); first | done | rfl | (simp only [List.length_drop, List.length_take]; rfl)) ?_; (with_reducible refine (demand_Due.calls a0_0 a0_1 a0_2 a0_3 (wrap64 (a0_2 + (Int.tmod (wrap64 ((Int.tmod a2 200) + 200)) 200))) t286 none _ A36.out).mono ?_); rintro e w47 ⟨rfl, hb⟩; refine ⟨_, rfl, ?_⟩; have n0_ := Aside0.mk (blk_below (g := gb273) (o := .cells #[.int .i64 a0_0, .int .i64 a0_1, .int .i64 a0_2, .int .i64 a0_3] 43 (0, 0)) (by (with_reducible repeat (first | refine blk_drewN ?_ _ | refine blk_drew ?_ | refine blk_alloc ?_ _)); exact BK273.out) hb); have n1_ := Aside0.mk (below_step (by repeat (first | (with_reducible first | exact HB.out | apply below_alloc | apply pw_below_drewN | apply below_drew1 | refine below_set ?_ GE273.out) | exact HB.out)) hb); clear BK273; clear HB; have BK273 := n0_; have HB := n1_; clear n0_ n1_; (try clear hb); (try clear hb2); (try clear hk); (try clear hi); (try simp only [errW_none, errW_some]); have hcz48_0 : w47.cell? ⟨gb273, 0, none⟩ = some (.int .i64 a0_0) := (blk_cell BK273.out 0).trans (by rfl); have hcz48_1 : w47.cell? ⟨gb273, 1, none⟩ = some (.int .i64 a0_1) := (blk_cell BK273.out 1).trans (by rfl); have hcz48_2 : w47.cell? ⟨gb273, 2, none⟩ = some (.int .i64 a0_2) := (blk_cell BK273.out 2).trans (by rfl); have hcz48_3 : w47.cell? ⟨gb273, 3, none⟩ = some (.int .i64 a0_3) := (blk_cell BK273.out 3).trans (by rfl); have hfz48_0 := blk_frozen BK273.out 0; have hfz48_1 := blk_frozen BK273.out 1; have hfz48_2 := blk_frozen BK273.out 2; have hfz48_3 := blk_frozen BK273.out 3) | ((with_reducible refine gate_callee (f := 24) rfl ?_); refine goesL_ (some 130) rfl rfl Try.func24 (by kernel_rfl) rfl #[.agg #[.int .i64 a0_0, .int .i64 a0_1, .int .i64 a0_2, .int .i64 a0_3], .int .i64 (wrap64 ((wrap64 (a0_2 + (Int.tmod (wrap64 ((Int.tmod a2 200) + 200)) 200))) + a0_0))] rfl (by (try simp only [List.map_toArray, List.map_cons, List.map_nil]); first | done | rfl | (simp only [List.length_drop, List.length_take]; rfl)) ?_; (with_reducible refine (demand_Due.calls a0_0 a0_1 a0_2 a0_3 (wrap64 ((wrap64 (a0_2 + (Int.tmod (wrap64 ((Int.tmod a2 200) + 200)) 200))) + a0_0)) t288 none _ A37.out).mono ?_); rintro e w49 ⟨rfl, hb⟩; refine ⟨_, rfl, ?_⟩; have n0_ := Aside0.mk (blk_below (g := gb273) (o := .cells #[.int .i64 a0_0, .int .i64 a0_1, .int .i64 a0_2, .int .i64 a0_3] 43 (0, 0)) (by (with_reducible repeat (first | refine blk_drewN ?_ _ | refine blk_drew ?_ | refine blk_alloc ?_ _)); exact BK273.out) hb); have n1_ := Aside0.mk (below_step (by repeat (first | (with_reducible first | exact HB.out | apply below_alloc | apply pw_below_drewN | apply below_drew1 | refine below_set ?_ GE273.out) | exact HB.out)) hb); clear BK273; clear HB; have BK273 := n0_; have HB := n1_; clear n0_ n1_; (try clear hb); (try clear hb2); (try clear hk); (try clear hi); (try simp only [errW_none, errW_some]); have hcz50_0 : w49.cell? ⟨gb273, 0, none⟩ = some (.int .i64 a0_0) := (blk_cell BK273.out 0).trans (by rfl); have hcz50_1 : w49.cell? ⟨gb273, 1, none⟩ = some (.int .i64 a0_1) := (blk_cell BK273.out 1).trans (by rfl); have hcz50_2 : w49.cell? ⟨gb273, 2, none⟩ = some (.int .i64 a0_2) := (blk_cell BK273.out 2).trans (by rfl); have hcz50_3 : w49.cell? ⟨gb273, 3, none⟩ = some (.int .i64 a0_3) := (blk_cell BK273.out 3).trans (by rfl); have hfz50_0 := blk_frozen BK273.out 0; have hfz50_1 := blk_frozen BK273.out 1; have hfz50_2 := blk_frozen BK273.out 2; have hfz50_3 := blk_frozen BK273.out 3))
           go_ret
           exact ⟨by first | rfl | (simp [errW_none, errW_some] <;> rfl) | (simp [*, errW_none, errW_some] <;> rfl), by repeat (first | (with_reducible first | exact HB.out | apply below_alloc | apply pw_below_drewN | apply below_drew1 | refine below_set ?_ GE273.out) | exact HB.out)⟩
         ·have H1 : (some false) = some r := by rw [if_neg (show ¬ (some q291).isNone = true by simp)] at H; exact H
          clear H
          have H := H1
          clear H1
          try simp only [errW_none, errW_some]
          obtain rfl := Option.some.inj H
          have hcz51_0 : wc.cell? ⟨gb273, 0, none⟩ = some (.int .i64 a0_0) := (blk_cell BK273.out 0).trans (by rfl)
          have hcz51_1 : wc.cell? ⟨gb273, 1, none⟩ = some (.int .i64 a0_1) := (blk_cell BK273.out 1).trans (by rfl)
          have hcz51_2 : wc.cell? ⟨gb273, 2, none⟩ = some (.int .i64 a0_2) := (blk_cell BK273.out 2).trans (by rfl)
          have hcz51_3 : wc.cell? ⟨gb273, 3, none⟩ = some (.int .i64 a0_3) := (blk_cell BK273.out 3).trans (by rfl)
          have hfz51_0 := blk_frozen BK273.out 0
          have hfz51_1 := blk_frozen BK273.out 1
          have hfz51_2 := blk_frozen BK273.out 2
          have hfz51_3 := blk_frozen BK273.out 3
          go_wp2_with (first | ((with_reducible refine gate_callee (f := 24) rfl ?_); refine goesL_ (some 118) rfl rfl Try.func24 (by kernel_rfl) rfl #[.agg #[.int .i64 a0_0, .int .i64 a0_1, .int .i64 a0_2, .int .i64 a0_3], .int .i64 (wrap64 (a0_2 + (Int.tmod (wrap64 ((Int.tmod a2 200) + 200)) 200)))] rfl (by (try simp only [List.map_toArray, List.map_cons, List.map_nil]); first | done | rfl | (simp only [List.length_drop, List.length_take]; rfl)) ?_; (with_reducible refine (demand_Due.calls a0_0 a0_1 a0_2 a0_3 (wrap64 (a0_2 + (Int.tmod (wrap64 ((Int.tmod a2 200) + 200)) 200))) t286 none _ A36.out).mono ?_); rintro e w52 ⟨rfl, hb⟩; refine ⟨_, rfl, ?_⟩; have n0_ := Aside0.mk (blk_below (g := gb273) (o := .cells #[.int .i64 a0_0, .int .i64 a0_1, .int .i64 a0_2, .int .i64 a0_3] 43 (0, 0)) (by (with_reducible repeat (first | refine blk_drewN ?_ _ | refine blk_drew ?_ | refine blk_alloc ?_ _)); exact BK273.out) hb); have n1_ := Aside0.mk (below_step (by repeat (first | (with_reducible first | exact HB.out | apply below_alloc | apply pw_below_drewN | apply below_drew1 | refine below_set ?_ GE273.out) | exact HB.out)) hb); clear BK273; clear HB; have BK273 := n0_; have HB := n1_; clear n0_ n1_; (try clear hb); (try clear hb2); (try clear hk); (try clear hi); (try simp only [errW_none, errW_some]); have hcz53_0 : w52.cell? ⟨gb273, 0, none⟩ = some (.int .i64 a0_0) := (blk_cell BK273.out 0).trans (by rfl); have hcz53_1 : w52.cell? ⟨gb273, 1, none⟩ = some (.int .i64 a0_1) := (blk_cell BK273.out 1).trans (by rfl); have hcz53_2 : w52.cell? ⟨gb273, 2, none⟩ = some (.int .i64 a0_2) := (blk_cell BK273.out 2).trans (by rfl); have hcz53_3 : w52.cell? ⟨gb273, 3, none⟩ = some (.int .i64 a0_3) := (blk_cell BK273.out 3).trans (by rfl); have hfz53_0 := blk_frozen BK273.out 0; have hfz53_1 := blk_frozen BK273.out 1; have hfz53_2 := blk_frozen BK273.out 2; have hfz53_3 := blk_frozen BK273.out 3) | ((with_reducible refine gate_callee (f := 24) rfl ?_); refine goesL_ (some 130) rfl rfl Try.func24 (by kernel_rfl) rfl #[.agg #[.int .i64 a0_0, .int .i64 a0_1, .int .i64 a0_2, .int .i64 a0_3], .int .i64 (wrap64 ((wrap64 (a0_2 + (Int.tmod (wrap64 ((Int.tmod a2 200) + 200)) 200))) + a0_0))] rfl (by (try simp only [List.map_toArray, List.map_cons, List.map_nil]); first | done | rfl | (simp only [List.length_drop, List.length_take]; rfl)) ?_; (with_reducible refine (demand_Due.calls a0_0 a0_1 a0_2 a0_3 (wrap64 ((wrap64 (a0_2 + (Int.tmod (wrap64 ((Int.tmod a2 200) + 200)) 200))) + a0_0)) t288 (some q291) _ A37.out).mono ?_); rintro e w54 ⟨rfl, hb⟩; refine ⟨_, rfl, ?_⟩; have n0_ := Aside0.mk (blk_below (g := gb273) (o := .cells #[.int .i64 a0_0, .int .i64 a0_1, .int .i64 a0_2, .int .i64 a0_3] 43 (0, 0)) (by (with_reducible repeat (first | refine blk_drewN ?_ _ | refine blk_drew ?_ | refine blk_alloc ?_ _)); exact BK273.out) hb); have n1_ := Aside0.mk (below_step (by repeat (first | (with_reducible first | exact HB.out | apply below_alloc | apply pw_below_drewN | apply below_drew1 | refine below_set ?_ GE273.out) | exact HB.out)) hb); clear BK273; clear HB; have BK273 := n0_; have HB := n1_; clear n0_ n1_; (try clear hb); (try clear hb2); (try clear hk); (try clear hi); (try simp only [errW_none, errW_some])))
          go_ret
          exact ⟨by first | rfl | (simp [errW_none, errW_some] <;> rfl) | (simp [*, errW_none, errW_some] <;> rfl), by repeat (first | (with_reducible first | exact HB.out | apply below_alloc | apply pw_below_drewN | apply below_drew1 | refine below_set ?_ GE273.out) | exact HB.out)⟩
        ·have H1 : (some false) = some r := by rw [if_neg (show ¬ (some q290).isNone = true by simp)] at H; exact H
         clear H
         have H := H1
         clear H1
         try simp only [errW_none, errW_some]
         obtain rfl := Option.some.inj H
         have hcz55_0 : wc.cell? ⟨gb273, 0, none⟩ = some (.int .i64 a0_0) := (blk_cell BK273.out 0).trans (by rfl)
         have hcz55_1 : wc.cell? ⟨gb273, 1, none⟩ = some (.int .i64 a0_1) := (blk_cell BK273.out 1).trans (by rfl)
         have hcz55_2 : wc.cell? ⟨gb273, 2, none⟩ = some (.int .i64 a0_2) := (blk_cell BK273.out 2).trans (by rfl)
         have hcz55_3 : wc.cell? ⟨gb273, 3, none⟩ = some (.int .i64 a0_3) := (blk_cell BK273.out 3).trans (by rfl)
         have hfz55_0 := blk_frozen BK273.out 0
         have hfz55_1 := blk_frozen BK273.out 1
         have hfz55_2 := blk_frozen BK273.out 2
         have hfz55_3 := blk_frozen BK273.out 3
         go_wp2_with (first | ((with_reducible refine gate_callee (f := 24) rfl ?_); refine goesL_ (some 118) rfl rfl Try.func24 (by kernel_rfl) rfl #[.agg #[.int .i64 a0_0, .int .i64 a0_1, .int .i64 a0_2, .int .i64 a0_3], .int .i64 (wrap64 (a0_2 + (Int.tmod (wrap64 ((Int.tmod a2 200) + 200)) 200)))] rfl (by (try simp only [List.map_toArray, List.map_cons, List.map_nil]); first | done | rfl | (simp only [List.length_drop, List.length_take]; rfl)) ?_; (with_reducible refine (demand_Due.calls a0_0 a0_1 a0_2 a0_3 (wrap64 (a0_2 + (Int.tmod (wrap64 ((Int.tmod a2 200) + 200)) 200))) t286 (some q290) _ A36.out).mono ?_); rintro e w56 ⟨rfl, hb⟩; refine ⟨_, rfl, ?_⟩; have n0_ := Aside0.mk (blk_below (g := gb273) (o := .cells #[.int .i64 a0_0, .int .i64 a0_1, .int .i64 a0_2, .int .i64 a0_3] 43 (0, 0)) (by (with_reducible repeat (first | refine blk_drewN ?_ _ | refine blk_drew ?_ | refine blk_alloc ?_ _)); exact BK273.out) hb); have n1_ := Aside0.mk (below_step (by repeat (first | (with_reducible first | exact HB.out | apply below_alloc | apply pw_below_drewN | apply below_drew1 | refine below_set ?_ GE273.out) | exact HB.out)) hb); clear BK273; clear HB; have BK273 := n0_; have HB := n1_; clear n0_ n1_; (try clear hb); (try clear hb2); (try clear hk); (try clear hi); (try simp only [errW_none, errW_some]); have hcz57_0 : w56.cell? ⟨gb273, 0, none⟩ = some (.int .i64 a0_0) := (blk_cell BK273.out 0).trans (by rfl); have hcz57_1 : w56.cell? ⟨gb273, 1, none⟩ = some (.int .i64 a0_1) := (blk_cell BK273.out 1).trans (by rfl); have hcz57_2 : w56.cell? ⟨gb273, 2, none⟩ = some (.int .i64 a0_2) := (blk_cell BK273.out 2).trans (by rfl); have hcz57_3 : w56.cell? ⟨gb273, 3, none⟩ = some (.int .i64 a0_3) := (blk_cell BK273.out 3).trans (by rfl); have hfz57_0 := blk_frozen BK273.out 0; have hfz57_1 := blk_frozen BK273.out 1; have hfz57_2 := blk_frozen BK273.out 2; have hfz57_3 := blk_frozen BK273.out 3) | ((with_reducible refine gate_callee (f := 24) rfl ?_); refine goesL_ (some 130) rfl rfl Try.func24 (by kernel_rfl) rfl #[.agg #[.int .i64 a0_0, .int .i64 a0_1, .int .i64 a0_2, .int .i64 a0_3], .int .i64 (wrap64 ((wrap64 (a0_2 + (Int.tmod (wrap64 ((Int.tmod a2 200) + 200)) 200))) + a0_0))] rfl (by (try simp only [List.map_toArray, List.map_cons, List.map_nil]); first | done | rfl | (simp only [List.length_drop, List.length_take]; rfl)) ?_; (with_reducible refine (demand_Due.calls a0_0 a0_1 a0_2 a0_3 (wrap64 ((wrap64 (a0_2 + (Int.tmod (wrap64 ((Int.tmod a2 200) + 200)) 200))) + a0_0)) t288 t289 _ A37.out).mono ?_); rintro e w58 ⟨rfl, hb⟩; refine ⟨_, rfl, ?_⟩; have n0_ := Aside0.mk (blk_below (g := gb273) (o := .cells #[.int .i64 a0_0, .int .i64 a0_1, .int .i64 a0_2, .int .i64 a0_3] 43 (0, 0)) (by (with_reducible repeat (first | refine blk_drewN ?_ _ | refine blk_drew ?_ | refine blk_alloc ?_ _)); exact BK273.out) hb); have n1_ := Aside0.mk (below_step (by repeat (first | (with_reducible first | exact HB.out | apply below_alloc | apply pw_below_drewN | apply below_drew1 | refine below_set ?_ GE273.out) | exact HB.out)) hb); clear BK273; clear HB; have BK273 := n0_; have HB := n1_; clear n0_ n1_; (try clear hb); (try clear hb2); (try clear hk); (try clear hi); (try simp only [errW_none, errW_some])))
         go_ret
         exact ⟨by first | rfl | (simp [errW_none, errW_some] <;> rfl) | (simp [*, errW_none, errW_some] <;> rfl), by repeat (first | (with_reducible first | exact HB.out | apply below_alloc | apply pw_below_drewN | apply below_drew1 | refine below_set ?_ GE273.out) | exact HB.out)⟩
 ·rw [if_neg c6] at H
  have c6b0 : (t276 == 0) = false := beq_eq_false_iff_ne.mpr c6
  have c6b1 : (t276 != 0) = true := bne_iff_ne.mpr c6
  replace H := Option.bind_eq_some_iff.mp H
  obtain ⟨t277, A590, H⟩ := H
  replace H : (if t277 = 2 then ((tithelaw20_works.f k).bind fun t278 => (some t278)) else (some false)) = some r := H
  have A59 := Aside0.mk A590
  clear A590
  by_cases c60 : t277 = 2
  ·rw [if_pos c60] at H
   have c60b0 : (t277 == 2) = true := beq_iff_eq.mpr c60
   have c60b1 : (t277 != 2) = false := bne_eq_false_iff_eq.mpr c60
   clear c60
   replace H := Option.bind_eq_some_iff.mp H
   obtain ⟨t278, A610, H⟩ := H
   replace H : (some t278) = some r := H
   have A61 := Aside0.mk A610
   clear A610
   obtain rfl := Option.some.inj H
   go_enter Try.func6, Try.ntmps6
   go_wp2_with (first | ((with_reducible refine gate_dst (N := 3) rfl ?_); refine box_event ?hg (N := 3) ?hd (cs := #[.int .i64 a0_0, .int .i64 a0_1, .int .i64 a0_2, .int .i64 a0_3]) (t := 43) ?hr ?_; (case hd => rfl); (case hg => rfl); (case hr => first | (go_simp; done) | (go_simp; rfl)); intro gb273 hg w62 hbox hb; have n0_ := Aside0.mk (below_step (by repeat (first | (with_reducible first | exact HB.out | apply below_alloc | apply pw_below_drewN | apply below_drew1) | exact HB.out)) hb); have n1_ := Aside0.mk (hbox); have n2_ := Aside0.mk ((by rw [hg]; exact (below_size (by repeat (first | (with_reducible first | exact HB.out | apply below_alloc | apply pw_below_drewN | apply below_drew1) | exact HB.out))) : w.heap.size ≤ gb273)); have n3_ := Aside0.mk ((by rw [hg]; exact (below_size (by repeat (first | (with_reducible first | exact HB.out | apply below_alloc | apply pw_below_drewN | apply below_drew1) | exact HB.out))) : w.heap.size ≤ gb273)); clear HB; have HB := n0_; have BK273 := n1_; have GW273 := n2_; have GE273 := n3_; clear n0_ n1_ n2_ n3_; clear hb hbox hg; have hcz63_0 : w62.cell? ⟨gb273, 0, none⟩ = some (.int .i64 a0_0) := (blk_cell BK273.out 0).trans (by rfl); have hcz63_1 : w62.cell? ⟨gb273, 1, none⟩ = some (.int .i64 a0_1) := (blk_cell BK273.out 1).trans (by rfl); have hcz63_2 : w62.cell? ⟨gb273, 2, none⟩ = some (.int .i64 a0_2) := (blk_cell BK273.out 2).trans (by rfl); have hcz63_3 : w62.cell? ⟨gb273, 3, none⟩ = some (.int .i64 a0_3) := (blk_cell BK273.out 3).trans (by rfl); have hfz63_0 := blk_frozen BK273.out 0; have hfz63_1 := blk_frozen BK273.out 1; have hfz63_2 := blk_frozen BK273.out 2; have hfz63_3 := blk_frozen BK273.out 3) | ((with_reducible refine gate_callee (f := 22) rfl ?_); refine goesL_ (some 30) rfl rfl Try.func22 (by kernel_rfl) rfl #[.agg #[.int .i64 a0_0, .int .i64 a0_1, .int .i64 a0_2, .int .i64 a0_3], .int .i64 (Int.tmod (wrap64 ((Int.tmod a2 200) + 200)) 200)] rfl (by (try simp only [List.map_toArray, List.map_cons, List.map_nil]); first | done | rfl | (simp only [List.length_drop, List.length_take]; rfl)) ?_; (with_reducible refine (demand_Requests.calls a0_0 a0_1 a0_2 a0_3 (Int.tmod (wrap64 ((Int.tmod a2 200) + 200)) 200) t274 t275 _ A4.out).mono ?_); rintro e w64 ⟨rfl, hb⟩; refine ⟨_, rfl, ?_⟩; have n0_ := Aside0.mk (blk_below (g := gb273) (o := .cells #[.int .i64 a0_0, .int .i64 a0_1, .int .i64 a0_2, .int .i64 a0_3] 43 (0, 0)) (by (with_reducible repeat (first | refine blk_drewN ?_ _ | refine blk_drew ?_ | refine blk_alloc ?_ _)); exact BK273.out) hb); have n1_ := Aside0.mk (below_step (by repeat (first | (with_reducible first | exact HB.out | apply below_alloc | apply pw_below_drewN | apply below_drew1 | refine below_set ?_ GE273.out) | exact HB.out)) hb); clear BK273; clear HB; have BK273 := n0_; have HB := n1_; clear n0_ n1_; (try clear hb); (try clear hb2); (try clear hk); (try clear hi); (try simp only [errW_none, errW_some]); have hcz65_0 : w64.cell? ⟨gb273, 0, none⟩ = some (.int .i64 a0_0) := (blk_cell BK273.out 0).trans (by rfl); have hcz65_1 : w64.cell? ⟨gb273, 1, none⟩ = some (.int .i64 a0_1) := (blk_cell BK273.out 1).trans (by rfl); have hcz65_2 : w64.cell? ⟨gb273, 2, none⟩ = some (.int .i64 a0_2) := (blk_cell BK273.out 2).trans (by rfl); have hcz65_3 : w64.cell? ⟨gb273, 3, none⟩ = some (.int .i64 a0_3) := (blk_cell BK273.out 3).trans (by rfl); have hfz65_0 := blk_frozen BK273.out 0; have hfz65_1 := blk_frozen BK273.out 1; have hfz65_2 := blk_frozen BK273.out 2; have hfz65_3 := blk_frozen BK273.out 3) | ((with_reducible refine gate_callee (f := 29) rfl ?_); refine goesL_ (some 34) rfl rfl Try.func29 (by kernel_rfl) rfl #[.agg #[.int .i64 a0_0, .int .i64 a0_1, .int .i64 a0_2, .int .i64 a0_3]] rfl (by (try simp only [List.map_toArray, List.map_cons, List.map_nil]); first | done | rfl | (simp only [List.length_drop, List.length_take]; rfl)) ?_; (with_reducible refine (titheref20_One.calls a0_0 a0_1 a0_2 a0_3 t276 _ A5.out).mono ?_); rintro e w66 ⟨rfl, hb⟩; refine ⟨_, rfl, ?_⟩; have n0_ := Aside0.mk (blk_below (g := gb273) (o := .cells #[.int .i64 a0_0, .int .i64 a0_1, .int .i64 a0_2, .int .i64 a0_3] 43 (0, 0)) (by (with_reducible repeat (first | refine blk_drewN ?_ _ | refine blk_drew ?_ | refine blk_alloc ?_ _)); exact BK273.out) hb); have n1_ := Aside0.mk (below_step (by repeat (first | (with_reducible first | exact HB.out | apply below_alloc | apply pw_below_drewN | apply below_drew1 | refine below_set ?_ GE273.out) | exact HB.out)) hb); clear BK273; clear HB; have BK273 := n0_; have HB := n1_; clear n0_ n1_; (try clear hb); (try clear hb2); (try clear hk); (try clear hi); have CA59 := fun W => tithelaw20_num.calls t275 t277 W A59.out; try simp only [errW_none, errW_some] at CA59) | (go_at_call 19; (with_reducible refine (CA59 _).mono ?_); rintro e w' ⟨rfl, ⟨nd, rfl⟩⟩) | (go_at_call 20; (with_reducible refine (tithelaw20_works.calls k  t278 _ A61.out).mono ?_); rintro e w67 ⟨rfl, hb⟩; have n0_ := Aside0.mk (blk_below (g := gb273) (o := .cells #[.int .i64 a0_0, .int .i64 a0_1, .int .i64 a0_2, .int .i64 a0_3] 43 (0, 0)) (by (with_reducible repeat (first | refine blk_drewN ?_ _ | refine blk_drew ?_ | refine blk_alloc ?_ _)); exact BK273.out) hb); have n1_ := Aside0.mk (below_step (by repeat (first | (with_reducible first | exact HB.out | apply below_alloc | apply pw_below_drewN | apply below_drew1 | refine below_set ?_ GE273.out) | exact HB.out)) hb); clear BK273; clear HB; have BK273 := n0_; have HB := n1_; clear n0_ n1_; (try clear hb); (try clear hb2); (try clear hk); (try clear hi)))
   go_ret
   exact ⟨by first | rfl | (simp [errW_none, errW_some] <;> rfl) | (simp [*, errW_none, errW_some] <;> rfl), by repeat (first | (with_reducible first | exact HB.out | apply below_alloc | apply pw_below_drewN | apply below_drew1 | refine below_set ?_ GE273.out) | exact HB.out)⟩
  ·rw [if_neg c60] at H
   have c60b0 : (t277 == 2) = false := beq_eq_false_iff_ne.mpr c60
   have c60b1 : (t277 != 2) = true := bne_iff_ne.mpr c60
   obtain rfl := Option.some.inj H
   go_enter Try.func6, Try.ntmps6
   go_wp2_with (first | ((with_reducible refine gate_dst (N := 3) rfl ?_); refine box_event ?hg (N := 3) ?hd (cs := #[.int .i64 a0_0, .int .i64 a0_1, .int .i64 a0_2, .int .i64 a0_3]) (t := 43) ?hr ?_; (case hd => rfl); (case hg => rfl); (case hr => first | (go_simp; done) | (go_simp; rfl)); intro gb273 hg w68 hbox hb; have n0_ := Aside0.mk (below_step (by repeat (first | (with_reducible first | exact HB.out | apply below_alloc | apply pw_below_drewN | apply below_drew1) | exact HB.out)) hb); have n1_ := Aside0.mk (hbox); have n2_ := Aside0.mk ((by rw [hg]; exact (below_size (by repeat (first | (with_reducible first | exact HB.out | apply below_alloc | apply pw_below_drewN | apply below_drew1) | exact HB.out))) : w.heap.size ≤ gb273)); have n3_ := Aside0.mk ((by rw [hg]; exact (below_size (by repeat (first | (with_reducible first | exact HB.out | apply below_alloc | apply pw_below_drewN | apply below_drew1) | exact HB.out))) : w.heap.size ≤ gb273)); clear HB; have HB := n0_; have BK273 := n1_; have GW273 := n2_; have GE273 := n3_; clear n0_ n1_ n2_ n3_; clear hb hbox hg; have hcz69_0 : w68.cell? ⟨gb273, 0, none⟩ = some (.int .i64 a0_0) := (blk_cell BK273.out 0).trans (by rfl); have hcz69_1 : w68.cell? ⟨gb273, 1, none⟩ = some (.int .i64 a0_1) := (blk_cell BK273.out 1).trans (by rfl); have hcz69_2 : w68.cell? ⟨gb273, 2, none⟩ = some (.int .i64 a0_2) := (blk_cell BK273.out 2).trans (by rfl); have hcz69_3 : w68.cell? ⟨gb273, 3, none⟩ = some (.int .i64 a0_3) := (blk_cell BK273.out 3).trans (by rfl); have hfz69_0 := blk_frozen BK273.out 0; have hfz69_1 := blk_frozen BK273.out 1; have hfz69_2 := blk_frozen BK273.out 2; have hfz69_3 := blk_frozen BK273.out 3) | ((with_reducible refine gate_callee (f := 22) rfl ?_); refine goesL_ (some 30) rfl rfl Try.func22 (by kernel_rfl) rfl #[.agg #[.int .i64 a0_0, .int .i64 a0_1, .int .i64 a0_2, .int .i64 a0_3], .int .i64 (Int.tmod (wrap64 ((Int.tmod a2 200) + 200)) 200)] rfl (by (try simp only [List.map_toArray, List.map_cons, List.map_nil]); first | done | rfl | (simp only [List.length_drop, List.length_take]; rfl)) ?_; (with_reducible refine (demand_Requests.calls a0_0 a0_1 a0_2 a0_3 (Int.tmod (wrap64 ((Int.tmod a2 200) + 200)) 200) t274 t275 _ A4.out).mono ?_); rintro e w70 ⟨rfl, hb⟩; refine ⟨_, rfl, ?_⟩; have n0_ := Aside0.mk (blk_below (g := gb273) (o := .cells #[.int .i64 a0_0, .int .i64 a0_1, .int .i64 a0_2, .int .i64 a0_3] 43 (0, 0)) (by (with_reducible repeat (first | refine blk_drewN ?_ _ | refine blk_drew ?_ | refine blk_alloc ?_ _)); exact BK273.out) hb); have n1_ := Aside0.mk (below_step (by repeat (first | (with_reducible first | exact HB.out | apply below_alloc | apply pw_below_drewN | apply below_drew1 | refine below_set ?_ GE273.out) | exact HB.out)) hb); clear BK273; clear HB; have BK273 := n0_; have HB := n1_; clear n0_ n1_; (try clear hb); (try clear hb2); (try clear hk); (try clear hi); (try simp only [errW_none, errW_some]); have hcz71_0 : w70.cell? ⟨gb273, 0, none⟩ = some (.int .i64 a0_0) := (blk_cell BK273.out 0).trans (by rfl); have hcz71_1 : w70.cell? ⟨gb273, 1, none⟩ = some (.int .i64 a0_1) := (blk_cell BK273.out 1).trans (by rfl); have hcz71_2 : w70.cell? ⟨gb273, 2, none⟩ = some (.int .i64 a0_2) := (blk_cell BK273.out 2).trans (by rfl); have hcz71_3 : w70.cell? ⟨gb273, 3, none⟩ = some (.int .i64 a0_3) := (blk_cell BK273.out 3).trans (by rfl); have hfz71_0 := blk_frozen BK273.out 0; have hfz71_1 := blk_frozen BK273.out 1; have hfz71_2 := blk_frozen BK273.out 2; have hfz71_3 := blk_frozen BK273.out 3) | ((with_reducible refine gate_callee (f := 29) rfl ?_); refine goesL_ (some 34) rfl rfl Try.func29 (by kernel_rfl) rfl #[.agg #[.int .i64 a0_0, .int .i64 a0_1, .int .i64 a0_2, .int .i64 a0_3]] rfl (by (try simp only [List.map_toArray, List.map_cons, List.map_nil]); first | done | rfl | (simp only [List.length_drop, List.length_take]; rfl)) ?_; (with_reducible refine (titheref20_One.calls a0_0 a0_1 a0_2 a0_3 t276 _ A5.out).mono ?_); rintro e w72 ⟨rfl, hb⟩; refine ⟨_, rfl, ?_⟩; have n0_ := Aside0.mk (blk_below (g := gb273) (o := .cells #[.int .i64 a0_0, .int .i64 a0_1, .int .i64 a0_2, .int .i64 a0_3] 43 (0, 0)) (by (with_reducible repeat (first | refine blk_drewN ?_ _ | refine blk_drew ?_ | refine blk_alloc ?_ _)); exact BK273.out) hb); have n1_ := Aside0.mk (below_step (by repeat (first | (with_reducible first | exact HB.out | apply below_alloc | apply pw_below_drewN | apply below_drew1 | refine below_set ?_ GE273.out) | exact HB.out)) hb); clear BK273; clear HB; have BK273 := n0_; have HB := n1_; clear n0_ n1_; (try clear hb); (try clear hb2); (try clear hk); (try clear hi); have CA59 := fun W => tithelaw20_num.calls t275 t277 W A59.out; try simp only [errW_none, errW_some] at CA59) | (go_at_call 19; (with_reducible refine (CA59 _).mono ?_); rintro e w' ⟨rfl, ⟨nd, rfl⟩⟩))
   go_ret
   exact ⟨by first | rfl | (simp [errW_none, errW_some] <;> rfl) | (simp [*, errW_none, errW_some] <;> rfl), by repeat (first | (with_reducible first | exact HB.out | apply below_alloc | apply pw_below_drewN | apply below_drew1 | refine below_set ?_ GE273.out) | exact HB.out)⟩

end Go.Proofs.YtdonlmbhamcjdaaRRR.E
