/- Proved here: what the machine does at calls of the functions that the laws reach is what plain functions of the same names say, or a row of the given statement out of that. No conditions. Written by a program of this session over the printer of the kit. -/
import Derived.Test.YtaoicceakgipgaaXx0
import Derived.Test.YtaoicceakgipgaaXx1
namespace Go.Proofs.Ytaoicceakgipgaa.X
open Go.RowKit Go.Proofs.YtaoicceakgipgaaW.PrintWords Go.Proofs.YtaoicceakgipgaaW.PrintLast Go.Proofs.YtaoicceakgipgaaW.PrintMore
attribute [local go_sem] max2_int min2_int max_two min_two max_three min_three max_four min_four   -- for this text's walks alone
set_option linter.unusedVariables false
set_option linter.unusedSimpArgs false

/-! ### tithelaw21_SupplyMet: function 3 -/
mutual
def tithelaw21_SupplyMet.l0 : Nat → Int → List Bool → Int → Int → Int → Option (Bool)
  | 0, _, _, _, _, _ => none
  | k + 1, x2, x8, x9, x126000, x126001 => if (x8.length : Int) < (wrap64 (x2 + x126001)) then (if 0 ≤ x126001 then (if (x126001 : Int).toNat ≤ 281474976710656 then (tithelaw21_SupplyMet.l1 k x2 x8 x9 (List.replicate (x126001 : Int).toNat false) 0 x126000 x126001) else (none)) else (none)) else ((supply_Least.f x126000 x126001 x2).bind fun bt137 => (tithelaw21_SupplyMet.l2 k x2 x8 bt137.1 bt137.2 (([] : List Bool)) 0 x126000 x126001))
def tithelaw21_SupplyMet.l1 : Nat → Int → List Bool → Int → List Bool → Int → Int → Int → Option (Bool)
  | 0, _, _, _, _, _, _, _ => none
  | k + 1, x2, x8, x9, x10, x11, x126000, x126001 => if x11 < x126000 then (if x9 = 0 then (if 0 ≤ x11 then (if x11 < (x10.length : Int) then (tithelaw21_SupplyMet.l1 k x2 x8 x9 (x10.set (x11 : Int).toNat true) (wrap64 (x11 + 1)) x126000 x126001) else (none)) else (none)) else (if 0 ≤ (wrap64 ((wrap64 (x126001 - 1)) - x11)) then (if (wrap64 ((wrap64 (x126001 - 1)) - x11)) < (x10.length : Int) then (tithelaw21_SupplyMet.l1 k x2 x8 x9 (x10.set ((wrap64 ((wrap64 (x126001 - 1)) - x11)) : Int).toNat true) (wrap64 (x11 + 1)) x126000 x126001) else (none)) else (none))) else (if x8.length + x10.length < 140737488355328 then (tithelaw21_SupplyMet.l0 k x2 (x8 ++ x10) (wrap64 (x9 + 1)) x126000 x126001) else (none))
def tithelaw21_SupplyMet.l2 : Nat → Int → List Bool → Int → Option Int → List Bool → Int → Int → Int → Option (Bool)
  | 0, _, _, _, _, _, _, _, _ => none
  | k + 1, x2, x8, x12, x13, x14, x15, x126000, x126001 => if (x14.length : Int) < (wrap64 (x2 + x126001)) then (if 0 ≤ x126001 then (if (x126001 : Int).toNat ≤ 281474976710656 then (tithelaw21_SupplyMet.l3 k x2 x8 x12 x13 x14 x15 (List.replicate (x126001 : Int).toNat false) 0 x126000 x126001) else (none)) else (none)) else ((supply_Most.f x126000 x126001 x2).bind fun bt150 => (if x13.isNone = true then (if bt150.2.isNone = true then (if 0 ≤ x126000 then (if x126000 ≤ (wrap64 (x126000 + x2)) then (if (wrap64 (x126000 + x2)) ≤ (x8.length : Int) then ((tithelaw21_count.f k ((x8.take ((wrap64 (x126000 + x2)) : Int).toNat).drop (x126000 : Int).toNat)).bind fun t158 => (if t158 = x12 then (if 0 ≤ (wrap64 (x126001 - x126000)) then (if (wrap64 (x126001 - x126000)) ≤ (wrap64 ((wrap64 (x126001 - x126000)) + x2)) then (if (wrap64 ((wrap64 (x126001 - x126000)) + x2)) ≤ (x14.length : Int) then ((tithelaw21_count.f k ((x14.take ((wrap64 ((wrap64 (x126001 - x126000)) + x2)) : Int).toNat).drop ((wrap64 (x126001 - x126000)) : Int).toNat)).bind fun t163 => (if t163 = bt150.1 then ((tithelaw21_sure.f).bind fun t164 => (some t164)) else (some false))) else (none)) else (none)) else (none)) else (some false))) else (none)) else (none)) else (none)) else (some false)) else (some false)))
def tithelaw21_SupplyMet.l3 : Nat → Int → List Bool → Int → Option Int → List Bool → Int → List Bool → Int → Int → Int → Option (Bool)
  | 0, _, _, _, _, _, _, _, _, _, _ => none
  | k + 1, x2, x8, x12, x13, x14, x15, x16, x17, x126000, x126001 => if x17 < x126000 then (if x15 = 0 then (if 0 ≤ (wrap64 ((wrap64 (x126001 - 1)) - x17)) then (if (wrap64 ((wrap64 (x126001 - 1)) - x17)) < (x16.length : Int) then (tithelaw21_SupplyMet.l3 k x2 x8 x12 x13 x14 x15 (x16.set ((wrap64 ((wrap64 (x126001 - 1)) - x17)) : Int).toNat true) (wrap64 (x17 + 1)) x126000 x126001) else (none)) else (none)) else (if 0 ≤ x17 then (if x17 < (x16.length : Int) then (tithelaw21_SupplyMet.l3 k x2 x8 x12 x13 x14 x15 (x16.set (x17 : Int).toNat true) (wrap64 (x17 + 1)) x126000 x126001) else (none)) else (none))) else (if x14.length + x16.length < 140737488355328 then (tithelaw21_SupplyMet.l2 k x2 x8 x12 x13 (x14 ++ x16) (wrap64 (x15 + 1)) x126000 x126001) else (none))
end
def tithelaw21_SupplyMet.f (k : Nat) (a0 : Int) (a1 : Int) (a2 : Int) : Option (Bool) := if (IntKind.u64.wrap (wrap64 (1 + (wrap64 (Int.tmod (IntKind.u64.wrap (a1)) 40))))) = 0 then (none) else (tithelaw21_SupplyMet.l0 k (wrap64 (Int.tmod (IntKind.u64.wrap (a2)) 200)) (([] : List Bool)) 0 (wrap64 (1 + (wrap64 (Int.tmod (IntKind.u64.wrap (a0)) (IntKind.u64.wrap (wrap64 (1 + (wrap64 (Int.tmod (IntKind.u64.wrap (a1)) 40))))))))) (wrap64 (1 + (wrap64 (Int.tmod (IntKind.u64.wrap (a1)) 40)))))
theorem tithelaw21_SupplyMet.mono_l : ∀ k, (∀ y0 y1 y2 y3 y4, LeO (tithelaw21_SupplyMet.l0 k y0 y1 y2 y3 y4) (tithelaw21_SupplyMet.l0 (k + 1) y0 y1 y2 y3 y4)) ∧ (∀ y0 y1 y2 y3 y4 y5 y6, LeO (tithelaw21_SupplyMet.l1 k y0 y1 y2 y3 y4 y5 y6) (tithelaw21_SupplyMet.l1 (k + 1) y0 y1 y2 y3 y4 y5 y6)) ∧ (∀ y0 y1 y2 y3 y4 y5 y6 y7, LeO (tithelaw21_SupplyMet.l2 k y0 y1 y2 y3 y4 y5 y6 y7) (tithelaw21_SupplyMet.l2 (k + 1) y0 y1 y2 y3 y4 y5 y6 y7)) ∧ (∀ y0 y1 y2 y3 y4 y5 y6 y7 y8 y9, LeO (tithelaw21_SupplyMet.l3 k y0 y1 y2 y3 y4 y5 y6 y7 y8 y9) (tithelaw21_SupplyMet.l3 (k + 1) y0 y1 y2 y3 y4 y5 y6 y7 y8 y9))
  | 0 => ⟨fun _ _ _ _ _ r h => by simp [tithelaw21_SupplyMet.l0] at h, fun _ _ _ _ _ _ _ r h => by simp [tithelaw21_SupplyMet.l1] at h, fun _ _ _ _ _ _ _ _ r h => by simp [tithelaw21_SupplyMet.l2] at h, fun _ _ _ _ _ _ _ _ _ _ r h => by simp [tithelaw21_SupplyMet.l3] at h⟩
  | k + 1 => by
    obtain ⟨ih0, ih1, ih2, ih3⟩ := tithelaw21_SupplyMet.mono_l k
    refine ⟨?_, ?_, ?_, ?_⟩
    · intro y0 y1 y2 y3 y4
      unfold tithelaw21_SupplyMet.l0
      repeat' first
      | (with_reducible exact ih0 _ _ _ _ _)
      | (with_reducible exact ih1 _ _ _ _ _ _ _)
      | (with_reducible exact ih2 _ _ _ _ _ _ _ _)
      | (with_reducible exact ih3 _ _ _ _ _ _ _ _ _ _)
      | (with_reducible exact tithelaw21_count.mono _ _)
      | (with_reducible exact LeO.refl _)
      | (with_reducible exact LeO.none _)
      | (with_reducible refine LeO.ite ?_ ?_)
      | (with_reducible refine LeO.bind ?_ (fun _ => ?_))
      | exact ih0 _ _ _ _ _
      | exact ih1 _ _ _ _ _ _ _
      | exact ih2 _ _ _ _ _ _ _ _
      | exact ih3 _ _ _ _ _ _ _ _ _ _
      | exact tithelaw21_count.mono _ _
      | exact LeO.none _
      | refine LeO.ite ?_ ?_
      | refine LeO.bind ?_ (fun _ => ?_)
    · intro y0 y1 y2 y3 y4 y5 y6
      unfold tithelaw21_SupplyMet.l1
      repeat' first
      | (with_reducible exact ih0 _ _ _ _ _)
      | (with_reducible exact ih1 _ _ _ _ _ _ _)
      | (with_reducible exact ih2 _ _ _ _ _ _ _ _)
      | (with_reducible exact ih3 _ _ _ _ _ _ _ _ _ _)
      | (with_reducible exact tithelaw21_count.mono _ _)
      | (with_reducible exact LeO.refl _)
      | (with_reducible exact LeO.none _)
      | (with_reducible refine LeO.ite ?_ ?_)
      | (with_reducible refine LeO.bind ?_ (fun _ => ?_))
      | exact ih0 _ _ _ _ _
      | exact ih1 _ _ _ _ _ _ _
      | exact ih2 _ _ _ _ _ _ _ _
      | exact ih3 _ _ _ _ _ _ _ _ _ _
      | exact tithelaw21_count.mono _ _
      | exact LeO.none _
      | refine LeO.ite ?_ ?_
      | refine LeO.bind ?_ (fun _ => ?_)
    · intro y0 y1 y2 y3 y4 y5 y6 y7
      unfold tithelaw21_SupplyMet.l2
      repeat' first
      | (with_reducible exact ih0 _ _ _ _ _)
      | (with_reducible exact ih1 _ _ _ _ _ _ _)
      | (with_reducible exact ih2 _ _ _ _ _ _ _ _)
      | (with_reducible exact ih3 _ _ _ _ _ _ _ _ _ _)
      | (with_reducible exact tithelaw21_count.mono _ _)
      | (with_reducible exact LeO.refl _)
      | (with_reducible exact LeO.none _)
      | (with_reducible refine LeO.ite ?_ ?_)
      | (with_reducible refine LeO.bind ?_ (fun _ => ?_))
      | exact ih0 _ _ _ _ _
      | exact ih1 _ _ _ _ _ _ _
      | exact ih2 _ _ _ _ _ _ _ _
      | exact ih3 _ _ _ _ _ _ _ _ _ _
      | exact tithelaw21_count.mono _ _
      | exact LeO.none _
      | refine LeO.ite ?_ ?_
      | refine LeO.bind ?_ (fun _ => ?_)
    · intro y0 y1 y2 y3 y4 y5 y6 y7 y8 y9
      unfold tithelaw21_SupplyMet.l3
      repeat' first
      | (with_reducible exact ih0 _ _ _ _ _)
      | (with_reducible exact ih1 _ _ _ _ _ _ _)
      | (with_reducible exact ih2 _ _ _ _ _ _ _ _)
      | (with_reducible exact ih3 _ _ _ _ _ _ _ _ _ _)
      | (with_reducible exact tithelaw21_count.mono _ _)
      | (with_reducible exact LeO.refl _)
      | (with_reducible exact LeO.none _)
      | (with_reducible refine LeO.ite ?_ ?_)
      | (with_reducible refine LeO.bind ?_ (fun _ => ?_))
      | exact ih0 _ _ _ _ _
      | exact ih1 _ _ _ _ _ _ _
      | exact ih2 _ _ _ _ _ _ _ _
      | exact ih3 _ _ _ _ _ _ _ _ _ _
      | exact tithelaw21_count.mono _ _
      | exact LeO.none _
      | refine LeO.ite ?_ ?_
      | refine LeO.bind ?_ (fun _ => ?_)
theorem tithelaw21_SupplyMet.mono : ∀ a0 a1 a2 k, LeO (tithelaw21_SupplyMet.f k a0 a1 a2) (tithelaw21_SupplyMet.f (k + 1) a0 a1 a2) := by
  intro a0 a1 a2 k
  obtain ⟨ih0, ih1, ih2, ih3⟩ := tithelaw21_SupplyMet.mono_l k
  unfold tithelaw21_SupplyMet.f
  repeat' first
      | (with_reducible exact ih0 _ _ _ _ _)
      | (with_reducible exact ih1 _ _ _ _ _ _ _)
      | (with_reducible exact ih2 _ _ _ _ _ _ _ _)
      | (with_reducible exact ih3 _ _ _ _ _ _ _ _ _ _)
      | (with_reducible exact tithelaw21_count.mono _ _)
      | (with_reducible exact LeO.refl _)
      | (with_reducible exact LeO.none _)
      | (with_reducible refine LeO.ite ?_ ?_)
      | (with_reducible refine LeO.bind ?_ (fun _ => ?_))
      | exact ih0 _ _ _ _ _
      | exact ih1 _ _ _ _ _ _ _
      | exact ih2 _ _ _ _ _ _ _ _
      | exact ih3 _ _ _ _ _ _ _ _ _ _
      | exact tithelaw21_count.mono _ _
      | exact LeO.none _
      | refine LeO.ite ?_ ?_
      | refine LeO.bind ?_ (fun _ => ?_)
set_option maxHeartbeats 8000000 in
set_option maxRecDepth 100000 in
theorem tithelaw21_SupplyMet.calls (k : Nat) (a0 : Int) (a1 : Int) (a2 : Int) (r : Bool) (w : World) (h : tithelaw21_SupplyMet.f k a0 a1 a2 = some r) :
    Calls Try.prog 3 #[.int .i64 a0, .int .i64 a1, .int .i64 a2] w fun e w' => e = .returned (.bool r) ∧ Below w.heap.size w w' := by
  have hu24 := Try.underlying24
  have hu27 := Try.underlying27
  have hu47 := Try.underlying47
  have HB := Aside0.mk (Below.refl w.heap.size w)
  have H : (if (IntKind.u64.wrap (wrap64 (1 + (wrap64 (Int.tmod (IntKind.u64.wrap (a1)) 40))))) = 0 then (none) else (tithelaw21_SupplyMet.l0 k (wrap64 (Int.tmod (IntKind.u64.wrap (a2)) 200)) (([] : List Bool)) 0 (wrap64 (1 + (wrap64 (Int.tmod (IntKind.u64.wrap (a0)) (IntKind.u64.wrap (wrap64 (1 + (wrap64 (Int.tmod (IntKind.u64.wrap (a1)) 40))))))))) (wrap64 (1 + (wrap64 (Int.tmod (IntKind.u64.wrap (a1)) 40)))))) = some r := h
  clear h
  by_cases c4 : (IntKind.u64.wrap (wrap64 (1 + (wrap64 (Int.tmod (IntKind.u64.wrap (a1)) 40))))) = 0
  · rw [if_pos c4] at H
    exact absurd H (by simp)
  · rw [if_neg c4] at H
    have c4b0 : ((IntKind.u64.wrap (wrap64 (1 + (wrap64 (Int.tmod (IntKind.u64.wrap (a1)) 40))))) == 0) = false := beq_eq_false_iff_ne.mpr c4
    have c4b1 : ((IntKind.u64.wrap (wrap64 (1 + (wrap64 (Int.tmod (IntKind.u64.wrap (a1)) 40))))) != 0) = true := bne_iff_ne.mpr c4
    obtain ⟨y126, hy126⟩ : ∃ y_ : List Bool, y_ = (([] : List Bool)) := ⟨_, rfl⟩
    replace H : (tithelaw21_SupplyMet.l0 k (wrap64 (Int.tmod (IntKind.u64.wrap (a2)) 200)) y126 0 (wrap64 (1 + (wrap64 (Int.tmod (IntKind.u64.wrap (a0)) (IntKind.u64.wrap (wrap64 (1 + (wrap64 (Int.tmod (IntKind.u64.wrap (a1)) 40))))))))) (wrap64 (1 + (wrap64 (Int.tmod (IntKind.u64.wrap (a1)) 40))))) = some r := by first | (rw [hy126]; with_reducible exact H) | (have H2_ := (Option.bind_some _ _).symm.trans H; rw [hy126]; with_reducible exact H2_) | (have H2_ := (Option.bind_some _ _).symm.trans H; with_reducible exact H2_) | with_reducible exact H | (rw [hy126]; exact H) | exact H
    have Ny126 := Aside0.mk hy126
    clear hy126
    have H' := Aside0.mk H
    clear H
    go_enter Try.func3, Try.ntmps3
    go_wp2_with (first | ((with_reducible refine gate_dst (N := 7) rfl ?_); refine box_event ?hg (N := 7) ?hd (cs := #[.int .i64 0, .int .i64 0]) (t := 24) ?hr ?_; (case hd => rfl); (case hg => rfl); (case hr => first | (go_simp; done) | (go_simp; rfl)); intro gb125 hg w5 hbox hb; have n0_ := Aside0.mk (below_step (by repeat (first | (with_reducible first | exact HB.out | apply below_alloc | apply pw_below_drewN | apply below_drew1) | exact HB.out)) hb); have n1_ := Aside0.mk (hbox); have n2_ := Aside0.mk ((by rw [hg]; exact (below_size (by repeat (first | (with_reducible first | exact HB.out | apply below_alloc | apply pw_below_drewN | apply below_drew1) | exact HB.out))) : w.heap.size ≤ gb125)); have n3_ := Aside0.mk ((by rw [hg]; exact (below_size (by repeat (first | (with_reducible first | exact HB.out | apply below_alloc | apply pw_below_drewN | apply below_drew1) | exact HB.out))) : w.heap.size ≤ gb125)); clear HB; have HB := n0_; have BK125 := n1_; have GW125 := n2_; have GE125 := n3_; clear n0_ n1_ n2_ n3_; clear hb hbox hg; have hcz6_0 : w5.cell? ⟨gb125, 0, none⟩ = some (.int .i64 0) := (blk_cell BK125.out 0).trans (by rfl); have hcz6_1 : w5.cell? ⟨gb125, 1, none⟩ = some (.int .i64 0) := (blk_cell BK125.out 1).trans (by rfl); have hfz6_0 := blk_frozen BK125.out 0; have hfz6_1 := blk_frozen BK125.out 1) | ((with_reducible refine gate_dst (N := 39) rfl ?_); refine Kd.R_lit Kd.bool _ 4 ?hg (N := 39) ?hd (xs := ([] : List Bool)) (inner := []) (ok := fun _ => True) (okp := fun _ => True) ?hr ?hp (fun _ hk => hk) trivial (Below.refl _ _) (Nat.le_refl _) (by simp) ?_; (case hd => rfl); (case hg => rfl); (case hr => first | (go_simp; done) | (go_simp; rfl)); (case hp => exact (Reps.none _ _)); intro v127 w7 ho8 hb hg_ hnew_; clear hg_ hnew_; (first | rw [← Ny126.out] at ho8 | (simp only [Int.reduceToNat] at ho8; rw [← Ny126.out] at ho8)); have n0_ := Aside0.mk (Kd.R_lower ho8 (below_size (by repeat (first | (with_reducible first | exact HB.out | apply below_alloc | apply pw_below_drewN | apply below_drew1 | refine below_set ?_ GE125.out) | exact HB.out)))); have n1_ := Aside0.mk (blk_below (g := gb125) (o := .cells #[.int .i64 (wrap64 (1 + (wrap64 (Int.tmod (IntKind.u64.wrap (a0)) (IntKind.u64.wrap (wrap64 (1 + (wrap64 (Int.tmod (IntKind.u64.wrap (a1)) 40))))))))), .int .i64 (wrap64 (1 + (wrap64 (Int.tmod (IntKind.u64.wrap (a1)) 40))))] 24 (0, 0)) (by (with_reducible repeat (first | refine blk_drewN ?_ _ | refine blk_drew ?_ | refine blk_alloc ?_ _)); refine blk_put (cs := #[.int .i64 0, .int .i64 (wrap64 (1 + (wrap64 (Int.tmod (IntKind.u64.wrap (a1)) 40))))]) ?_ 0 _ rfl; (with_reducible repeat (first | refine blk_drewN ?_ _ | refine blk_drew ?_ | refine blk_alloc ?_ _)); refine blk_put (cs := #[.int .i64 0, .int .i64 0]) ?_ 1 _ rfl; (with_reducible repeat (first | refine blk_drewN ?_ _ | refine blk_drew ?_ | refine blk_alloc ?_ _)); refine blk_put (cs := #[.int .i64 0, .int .i64 0]) ?_ 0 _ rfl; (with_reducible repeat (first | refine blk_drewN ?_ _ | refine blk_drew ?_ | refine blk_alloc ?_ _)); exact BK125.out) hb); have n2_ := Aside0.mk (below_step (by repeat (first | (with_reducible first | exact HB.out | apply below_alloc | apply pw_below_drewN | apply below_drew1 | refine below_set ?_ GE125.out) | exact HB.out)) hb); clear BK125; clear HB; have HO128 := n0_; have BK125 := n1_; have HB := n2_; clear n0_ n1_ n2_; clear hb ho8))
    go_loopg [8, 9] k (fun kq v8 v9 w' => ∃ (x8_1 : List Bool) (x9_1 : Int), v9 = .int .i64 x9_1 ∧ Aside0 (tithelaw21_SupplyMet.l0 kq (wrap64 (Int.tmod (IntKind.u64.wrap (a2)) 200)) x8_1 x9_1 (wrap64 (1 + (wrap64 (Int.tmod (IntKind.u64.wrap (a0)) (IntKind.u64.wrap (wrap64 (1 + (wrap64 (Int.tmod (IntKind.u64.wrap (a1)) 40))))))))) (wrap64 (1 + (wrap64 (Int.tmod (IntKind.u64.wrap (a1)) 40)))) = some r) ∧ Aside0 (kq ≤ k) ∧ Aside0 (Kd.R Kd.bool 4 w' w.heap.size (fun _ => True) v8 x8_1) ∧ Aside0 (w'.heap[gb125]? = some (.cells #[.int .i64 (wrap64 (1 + (wrap64 (Int.tmod (IntKind.u64.wrap (a0)) (IntKind.u64.wrap (wrap64 (1 + (wrap64 (Int.tmod (IntKind.u64.wrap (a1)) 40))))))))), .int .i64 (wrap64 (1 + (wrap64 (Int.tmod (IntKind.u64.wrap (a1)) 40))))] 24 (0, 0))) ∧ Aside0 (Below w.heap.size w w'))
    case atStart => exact ⟨(y126), (0), (by first | rfl | (simp; done) | (simp [*]; done)), H', ⟨Nat.le_refl _⟩, ⟨by (with_reducible repeat (first | apply Kd.R_alloc | apply Kd.R_drewN | apply Kd.R_drew)); exact HO128.out⟩, ⟨by (with_reducible repeat (first | refine blk_drewN ?_ _ | refine blk_drew ?_ | refine blk_alloc ?_ _)); exact BK125.out⟩, ⟨by repeat (first | (with_reducible first | exact HB.out | apply below_alloc | apply pw_below_drewN | apply below_drew1 | refine below_set ?_ GE125.out) | exact HB.out)⟩⟩
    case round =>
      clear H'
      try clear p2
      try clear c3
      try clear c4
      try clear c4b0
      try clear c4b1
      try clear p6
      try clear hcz6_0
      try clear hcz6_1
      try clear hfz6_0
      try clear hfz6_1
      obtain ⟨x8_1, x9_1, rfl, HA, HK1, HO_8, BK125, HB⟩ := hrel
      cases gk with
      | zero => exact absurd HA.out (by simp [tithelaw21_SupplyMet.l0])
      | succ k1 =>
        have H := HA.out
        clear HA
        simp only [tithelaw21_SupplyMet.l0] at H
        by_cases c9 : (x8_1.length : Int) < (wrap64 ((wrap64 (Int.tmod (IntKind.u64.wrap (a2)) 200)) + (wrap64 (1 + (wrap64 (Int.tmod (IntKind.u64.wrap (a1)) 40))))))
        · rw [if_pos c9] at H
          have c9b0 : decide ((x8_1.length : Int) < (wrap64 ((wrap64 (Int.tmod (IntKind.u64.wrap (a2)) 200)) + (wrap64 (1 + (wrap64 (Int.tmod (IntKind.u64.wrap (a1)) 40))))))) = true := decide_eq_true c9
          clear c9
          obtain ⟨ji10, hji10⟩ : ∃ j_ : Int, (wrap64 (1 + (wrap64 (Int.tmod (IntKind.u64.wrap (a1)) 40)))) = j_ := ⟨_, rfl⟩
          (try rw [hji10] at BK125)
          (try rw [hji10] at BK125)
          (try rw [hji10] at BK125)
          (try rw [hji10] at BK125)
          (try rw [hji10] at BK125)
          (try rw [hji10] at BK125)
          (try rw [hji10] at BK125)
          (try rw [hji10] at BK125)
          replace H : (if 0 ≤ (ji10) then (if ((ji10) : Int).toNat ≤ 281474976710656 then (tithelaw21_SupplyMet.l1 k1 (wrap64 (Int.tmod (IntKind.u64.wrap (a2)) 200)) x8_1 x9_1 (List.replicate ((ji10) : Int).toNat false) 0 (wrap64 (1 + (wrap64 (Int.tmod (IntKind.u64.wrap (a0)) (IntKind.u64.wrap (ji10)))))) (ji10)) else (none)) else (none)) = some r := by first | (rw [hji10] at H; exact H) | (simp only [hji10] at H ⊢; exact H)
          (try rw [hji10] at c4b0)
          (try rw [hji10] at c4b1)
          (try rw [hji10] at c9b0)
          have hji10w : (IntKind.i64.wrap (1 + (wrap64 (Int.tmod (IntKind.u64.wrap (a1)) 40)))) = ji10 := (i64_w _).trans hji10
          by_cases c11 : 0 ≤ (ji10)
          · rw [if_pos c11] at H
            have c11b0 := eq_true c11
            have c11b1 : decide (0 ≤ (ji10)) = true := decide_eq_true c11
            clear c11
            by_cases c12 : ((ji10) : Int).toNat ≤ 281474976710656
            · rw [if_pos c12] at H
              have c12b0 := eq_true c12
              have c12b1 : decide (((ji10) : Int).toNat ≤ 281474976710656) = true := decide_eq_true c12
              clear c12
              obtain ⟨y129, hy129⟩ : ∃ y_ : List Bool, y_ = (List.replicate ((ji10) : Int).toNat false) := ⟨_, rfl⟩
              replace H : (tithelaw21_SupplyMet.l1 k1 (wrap64 (Int.tmod (IntKind.u64.wrap (a2)) 200)) x8_1 x9_1 y129 0 (wrap64 (1 + (wrap64 (Int.tmod (IntKind.u64.wrap (a0)) (IntKind.u64.wrap (ji10)))))) (ji10)) = some r := by first | (rw [hy129]; with_reducible exact H) | (have H2_ := (Option.bind_some _ _).symm.trans H; rw [hy129]; with_reducible exact H2_) | (have H2_ := (Option.bind_some _ _).symm.trans H; with_reducible exact H2_) | with_reducible exact H | (rw [hy129]; exact H) | exact H
              have Ny129 := Aside0.mk hy129
              clear hy129
              have H' := Aside0.mk H
              clear H
              obtain ⟨Ao13, co13, eo13⟩ := Kd.R_slice HO_8.out
              subst eo13
              have hcz14_0 : wr.cell? ⟨gb125, 0, none⟩ = some (.int .i64 (wrap64 (1 + (wrap64 (Int.tmod (IntKind.u64.wrap (a0)) (IntKind.u64.wrap (ji10))))))) := (blk_cell BK125.out 0).trans (by first | rfl | (rw [← hji10]; rfl) )
              have hcz14_1 : wr.cell? ⟨gb125, 1, none⟩ = some (.int .i64 (ji10)) := (blk_cell BK125.out 1).trans (by first | rfl | (rw [← hji10]; rfl) )
              have hfz14_0 := blk_frozen BK125.out 0
              have hfz14_1 := blk_frozen BK125.out 1
              go_wp2_with (first | ((with_reducible refine gate_dst (N := 51) rfl ?_); refine Kd.R_make Kd.bool _ 4 rfl (N := 51) rfl 25 _ _ rfl (ji10) rfl rfl Try.underlying25 (.bool false) 1 info4 rfl (by decide) (by omega) false (ok := fun _ => True) (okp := fun _ => True) rfl (fun _ hk => hk) trivial (of_decide_eq_true (by first | (with_reducible assumption) | assumption)) (Nat.le_trans (Nat.mul_le_mul_right _ (of_decide_eq_true (by first | (with_reducible assumption) | assumption) : (ji10).toNat ≤ 281474976710656)) (by omega)) (Below.refl _ _) (Nat.le_refl _) ?_; intro v130 w15 ho16 hb hg_ hnew_; clear hg_ hnew_; (first | rw [← Ny129.out] at ho16 | (simp only [Int.reduceToNat] at ho16; rw [← Ny129.out] at ho16)); have n0_ := Aside0.mk (Kd.R_elder' (by (with_reducible repeat (first | apply Kd.R_alloc | apply Kd.R_drewN | apply Kd.R_drew)); exact HO_8.out) (Kd.R_base ho16) hb); have n1_ := Aside0.mk (Kd.R_lower (Kd.R_new' ho16 (Kd.R_lt (by (with_reducible repeat (first | apply Kd.R_alloc | apply Kd.R_drewN | apply Kd.R_drew)); exact HO_8.out))) (below_size (by repeat (first | (with_reducible first | exact HB.out | apply below_alloc | apply pw_below_drewN | apply below_drew1 | refine below_set ?_ GE125.out) | exact HB.out)))); have n2_ := Aside0.mk (blk_below (g := gb125) (o := .cells #[.int .i64 (wrap64 (1 + (wrap64 (Int.tmod (IntKind.u64.wrap (a0)) (IntKind.u64.wrap (ji10)))))), .int .i64 (ji10)] 24 (0, 0)) (by (with_reducible repeat (first | refine blk_drewN ?_ _ | refine blk_drew ?_ | refine blk_alloc ?_ _)); exact BK125.out) hb); have n3_ := Aside0.mk (below_step (by repeat (first | (with_reducible first | exact HB.out | apply below_alloc | apply pw_below_drewN | apply below_drew1 | refine below_set ?_ GE125.out) | exact HB.out)) hb); clear HO_8; clear BK125; clear HB; have HO_8 := n0_; have HO131 := n1_; have BK125 := n2_; have HB := n3_; clear n0_ n1_ n2_ n3_; clear hb ho16))
              go_loopg [11] k1 (fun kq v11 w' => ∃ (x10_2 : List Bool) (x11_2 : Int), v11 = .int .i64 x11_2 ∧ Aside0 (tithelaw21_SupplyMet.l1 kq (wrap64 (Int.tmod (IntKind.u64.wrap (a2)) 200)) x8_1 x9_1 x10_2 x11_2 (wrap64 (1 + (wrap64 (Int.tmod (IntKind.u64.wrap (a0)) (IntKind.u64.wrap (ji10)))))) (ji10) = some r) ∧ Aside0 (kq ≤ k1) ∧ Aside0 (Kd.R Kd.bool 4 w' w.heap.size (fun k_ => some k_ ≠ (v130 : Value).ownBlock) (.slice Ao13 x8_1.length co13) x8_1) ∧ Aside0 (Kd.R Kd.bool 4 w' w.heap.size (fun k_ => some k_ ≠ ((.slice Ao13 x8_1.length co13) : Value).ownBlock) v130 x10_2) ∧ Aside0 (w'.heap[gb125]? = some (.cells #[.int .i64 (wrap64 (1 + (wrap64 (Int.tmod (IntKind.u64.wrap (a0)) (IntKind.u64.wrap (ji10)))))), .int .i64 (ji10)] 24 (0, 0))) ∧ Aside0 (Below w.heap.size w w'))
              case atStart => exact ⟨(y129), (0), (by first | rfl | (simp; done) | (simp [*]; done)), H', ⟨Nat.le_refl _⟩, ⟨by (with_reducible repeat (first | apply Kd.R_alloc | apply Kd.R_drewN | apply Kd.R_drew)); exact Kd.R_mono HO_8.out (fun _ hk => hk.2)⟩, ⟨by (with_reducible repeat (first | apply Kd.R_alloc | apply Kd.R_drewN | apply Kd.R_drew)); exact Kd.R_mono HO131.out (fun _ hk => hk.2)⟩, ⟨by (with_reducible repeat (first | refine blk_drewN ?_ _ | refine blk_drew ?_ | refine blk_alloc ?_ _)); exact BK125.out⟩, ⟨by repeat (first | (with_reducible first | exact HB.out | apply below_alloc | apply pw_below_drewN | apply below_drew1 | refine below_set ?_ GE125.out) | exact HB.out)⟩⟩
              case round =>
                clear H'
                try clear c1
                try clear p2
                try clear c3
                try clear c4
                try clear c4b0
                try clear c4b1
                try clear p6
                try clear c9
                try clear c9b0
                try clear c11
                try clear c11b0
                try clear c11b1
                try clear c12
                try clear c12b0
                try clear c12b1
                try clear hcz14_0
                try clear hcz14_1
                try clear hcz6_0
                try clear hcz6_1
                try clear hfz14_0
                try clear hfz14_1
                try clear hfz6_0
                try clear hfz6_1
                try clear p2
                try clear p6
                obtain ⟨x10_2, x11_2, rfl, HA, HK2, HO_8, HO_10, BK125, HB⟩ := hrel
                cases gk with
                | zero => exact absurd HA.out (by simp [tithelaw21_SupplyMet.l1])
                | succ k2 =>
                  have H := HA.out
                  clear HA
                  simp only [tithelaw21_SupplyMet.l1] at H
                  by_cases c17 : x11_2 < (wrap64 (1 + (wrap64 (Int.tmod (IntKind.u64.wrap (a0)) (IntKind.u64.wrap (ji10))))))
                  · rw [if_pos c17] at H
                    have c17b0 : decide (x11_2 < (wrap64 (1 + (wrap64 (Int.tmod (IntKind.u64.wrap (a0)) (IntKind.u64.wrap (ji10))))))) = true := decide_eq_true c17
                    clear c17
                    by_cases c18 : x9_1 = 0
                    · rw [if_pos c18] at H
                      have c18b0 : (x9_1 == 0) = true := beq_iff_eq.mpr c18
                      have c18b1 : (x9_1 != 0) = false := bne_eq_false_iff_eq.mpr c18
                      clear c18
                      by_cases c19 : 0 ≤ x11_2
                      · rw [if_pos c19] at H
                        have c19b0 : decide (0 ≤ x11_2) = true := decide_eq_true c19
                        clear c19
                        by_cases c20 : x11_2 < (x10_2.length : Int)
                        · rw [if_pos c20] at H
                          have c20b0 : decide (x11_2 < (x10_2.length : Int)) = true := decide_eq_true c20
                          clear c20
                          obtain ⟨y132, hy132⟩ : ∃ y_ : List Bool, y_ = (x10_2.set (x11_2 : Int).toNat true) := ⟨_, rfl⟩
                          replace H : (tithelaw21_SupplyMet.l1 k2 (wrap64 (Int.tmod (IntKind.u64.wrap (a2)) 200)) x8_1 x9_1 y132 (wrap64 (x11_2 + 1)) (wrap64 (1 + (wrap64 (Int.tmod (IntKind.u64.wrap (a0)) (IntKind.u64.wrap (ji10)))))) (ji10)) = some r := by first | (rw [hy132]; with_reducible exact H) | (have H2_ := (Option.bind_some _ _).symm.trans H; rw [hy132]; with_reducible exact H2_) | (have H2_ := (Option.bind_some _ _).symm.trans H; with_reducible exact H2_) | with_reducible exact H | (rw [hy132]; exact H) | exact H
                          have Ny132 := Aside0.mk hy132
                          clear hy132
                          have H' := Aside0.mk H
                          clear H
                          have hcz22_0 : wr.cell? ⟨gb125, 0, none⟩ = some (.int .i64 (wrap64 (1 + (wrap64 (Int.tmod (IntKind.u64.wrap (a0)) (IntKind.u64.wrap (ji10))))))) := (blk_cell BK125.out 0).trans (by first | rfl | (rw [← hji10]; rfl) )
                          have hcz22_1 : wr.cell? ⟨gb125, 1, none⟩ = some (.int .i64 (ji10)) := (blk_cell BK125.out 1).trans (by first | rfl | (rw [← hji10]; rfl) )
                          have hfz22_0 := blk_frozen BK125.out 0
                          have hfz22_1 := blk_frozen BK125.out 1
                          have p21 : 0 ≤ (x11_2 : Int) := of_decide_eq_true (by first | (with_reducible assumption) | assumption)
                          have q21 : (x11_2 : Int) < ((x10_2.length : Int) : Int) := of_decide_eq_true (by first | (with_reducible assumption) | assumption)
                          obtain ⟨go21, co21, eo21, gb21, gl21, cl21, HG21⟩ := Kd.R_form HO_10.out (by omega)
                          (first | cases eo21 | (injection eo21 with ea_ en_ ec_; (first | subst ea_ | (injection ea_ with ea_; subst ea_)); subst ec_; clear en_))
                          have GB21 := Aside0.mk gb21
                          have GG21 := Aside0.mk HG21
                          clear gb21 gl21 HG21
                          obtain ⟨hx21_0, hf21_0⟩ := Kd.R_celln false HO_10.out (x11_2 : Int) p21 q21
                          replace p21 := eq_true p21
                          replace q21 := eq_true q21
                          have HP23 := Kd.R_putg HO_10.out (x11_2 : Int) true
                          go_wp2_with (first | ((with_reducible refine gate_store (t := 4) (p := 62) rfl ?_); refine store_event (t := 4) (p := 62) (v := ?vo_w24) (w1 := (wr.setCell ⟨go21, (x11_2 : Int).toNat, none⟩ (.bool true))) ?hg ?ho ?hn ?hr ?_; (case ho => rfl); (case hg => rfl); (case hn => rfl); (case hr => first | (go_simp; done) | (go_simp; rfl)); intro w24 hw; have hg : wr.grownBy w24 (some go21) := (by rw [hw]; exact HP23.2); have hp_ : Kd.R Kd.bool 4 w24 w.heap.size (fun k_ => some k_ ≠ (.slice Ao13 x8_1.length co13 : Value).ownBlock) (.slice (some ⟨go21, 0, none⟩) x10_2.length co21) y132 := (by rw [hw, Ny132.out]; exact HP23.1); clear HP23; have n0_ := Aside0.mk (Kd.R_after (v := (.slice (some ⟨go21, 0, none⟩) x10_2.length co21)) (v1 := (.slice (some ⟨go21, 0, none⟩) x10_2.length co21)) (ok := (fun _ => True)) (by (with_reducible repeat (first | apply Kd.R_alloc | apply Kd.R_drewN | apply Kd.R_drew)); exact Kd.R_mono HO_8.out (fun _ hk => ⟨trivial, hk⟩)) hg (.inl rfl)); have n1_ := Aside0.mk (hp_); have n2_ := Aside0.mk (blk_grown (g := gb125) (o := .cells #[.int .i64 (wrap64 (1 + (wrap64 (Int.tmod (IntKind.u64.wrap (a0)) (IntKind.u64.wrap (ji10)))))), .int .i64 (ji10)] 24 (0, 0)) (by (with_reducible repeat (first | refine blk_drewN ?_ _ | refine blk_drew ?_ | refine blk_alloc ?_ _)); exact BK125.out) hg (Kd.R_ne HO_10.out BK125.out (by decide))); have n3_ := Aside0.mk ((by rw [hw]; exact below_set (HB.out) GB21.out : Below w.heap.size w w24)); clear HO_8; clear HO_10; clear BK125; clear HB; have HO_8 := n0_; have HO_10 := n1_; have BK125 := n2_; have HB := n3_; clear n0_ n1_ n2_ n3_; clear hg hw hp_))
                          first | go_roundg k2 | (subst hji10; go_roundg k2)
                          case measure => have := HK1.out; have := HK2.out; omega
                          case rel => exact ⟨(y132), (wrap64 (x11_2 + 1)), (by first | rfl | (simp; done) | (simp [*]; done)), H', ⟨by have := HK1.out; have := HK2.out; omega⟩, ⟨by (with_reducible repeat (first | apply Kd.R_alloc | apply Kd.R_drewN | apply Kd.R_drew)); exact Kd.R_mono HO_8.out (fun _ hk => hk.2)⟩, ⟨by (with_reducible repeat (first | apply Kd.R_alloc | apply Kd.R_drewN | apply Kd.R_drew)); exact HO_10.out⟩, ⟨by (with_reducible repeat (first | refine blk_drewN ?_ _ | refine blk_drew ?_ | refine blk_alloc ?_ _)); exact BK125.out⟩, ⟨by repeat (first | (with_reducible first | exact HB.out | apply below_alloc | apply pw_below_drewN | apply below_drew1 | refine below_set ?_ GE125.out) | exact HB.out)⟩⟩
                        · rw [if_neg c20] at H
                          exact absurd H (by simp)
                      · rw [if_neg c19] at H
                        exact absurd H (by simp)
                    · rw [if_neg c18] at H
                      have c18b0 : (x9_1 == 0) = false := beq_eq_false_iff_ne.mpr c18
                      have c18b1 : (x9_1 != 0) = true := bne_iff_ne.mpr c18
                      obtain ⟨ji25, hji25⟩ : ∃ j_ : Int, (wrap64 ((wrap64 ((ji10) - 1)) - x11_2)) = j_ := ⟨_, rfl⟩
                      (try rw [hji25] at BK125)
                      (try rw [hji25] at BK125)
                      (try rw [hji25] at BK125)
                      (try rw [hji25] at BK125)
                      (try rw [hji25] at BK125)
                      (try rw [hji25] at BK125)
                      (try rw [hji25] at BK125)
                      (try rw [hji25] at BK125)
                      replace H : (if 0 ≤ (ji25) then (if (ji25) < (x10_2.length : Int) then (tithelaw21_SupplyMet.l1 k2 (wrap64 (Int.tmod (IntKind.u64.wrap (a2)) 200)) x8_1 x9_1 (x10_2.set ((ji25) : Int).toNat true) (wrap64 (x11_2 + 1)) (wrap64 (1 + (wrap64 (Int.tmod (IntKind.u64.wrap (a0)) (IntKind.u64.wrap (ji10)))))) (ji10)) else (none)) else (none)) = some r := by first | (rw [hji25] at H; exact H) | (simp only [hji25] at H ⊢; exact H)
                      have hji25w : (IntKind.i64.wrap ((wrap64 ((ji10) - 1)) - x11_2)) = ji25 := (i64_w _).trans hji25
                      by_cases c26 : 0 ≤ (ji25)
                      · rw [if_pos c26] at H
                        have c26b0 : decide (0 ≤ (ji25)) = true := decide_eq_true c26
                        clear c26
                        by_cases c27 : (ji25) < (x10_2.length : Int)
                        · rw [if_pos c27] at H
                          have c27b0 : decide ((ji25) < (x10_2.length : Int)) = true := decide_eq_true c27
                          clear c27
                          obtain ⟨y133, hy133⟩ : ∃ y_ : List Bool, y_ = (x10_2.set ((ji25) : Int).toNat true) := ⟨_, rfl⟩
                          replace H : (tithelaw21_SupplyMet.l1 k2 (wrap64 (Int.tmod (IntKind.u64.wrap (a2)) 200)) x8_1 x9_1 y133 (wrap64 (x11_2 + 1)) (wrap64 (1 + (wrap64 (Int.tmod (IntKind.u64.wrap (a0)) (IntKind.u64.wrap (ji10)))))) (ji10)) = some r := by first | (rw [hy133]; with_reducible exact H) | (have H2_ := (Option.bind_some _ _).symm.trans H; rw [hy133]; with_reducible exact H2_) | (have H2_ := (Option.bind_some _ _).symm.trans H; with_reducible exact H2_) | with_reducible exact H | (rw [hy133]; exact H) | exact H
                          have Ny133 := Aside0.mk hy133
                          clear hy133
                          have H' := Aside0.mk H
                          clear H
                          have hcz29_0 : wr.cell? ⟨gb125, 0, none⟩ = some (.int .i64 (wrap64 (1 + (wrap64 (Int.tmod (IntKind.u64.wrap (a0)) (IntKind.u64.wrap (ji10))))))) := (blk_cell BK125.out 0).trans (by first | rfl | (rw [← hji10]; rfl) )
                          have hcz29_1 : wr.cell? ⟨gb125, 1, none⟩ = some (.int .i64 (ji10)) := (blk_cell BK125.out 1).trans (by first | rfl | (rw [← hji10]; rfl) )
                          have hfz29_0 := blk_frozen BK125.out 0
                          have hfz29_1 := blk_frozen BK125.out 1
                          have p28 : 0 ≤ ((ji25) : Int) := of_decide_eq_true (by first | (with_reducible assumption) | assumption)
                          have q28 : ((ji25) : Int) < ((x10_2.length : Int) : Int) := of_decide_eq_true (by first | (with_reducible assumption) | assumption)
                          obtain ⟨go28, co28, eo28, gb28, gl28, cl28, HG28⟩ := Kd.R_form HO_10.out (by omega)
                          (first | cases eo28 | (injection eo28 with ea_ en_ ec_; (first | subst ea_ | (injection ea_ with ea_; subst ea_)); subst ec_; clear en_))
                          have GB28 := Aside0.mk gb28
                          have GG28 := Aside0.mk HG28
                          clear gb28 gl28 HG28
                          obtain ⟨hx28_0, hf28_0⟩ := Kd.R_celln false HO_10.out ((ji25) : Int) p28 q28
                          replace p28 := eq_true p28
                          replace q28 := eq_true q28
                          have HP30 := Kd.R_putg HO_10.out ((ji25) : Int) true
                          go_wp2_with (first | ((with_reducible refine gate_store (t := 4) (p := 69) rfl ?_); refine store_event (t := 4) (p := 69) (v := ?vo_w31) (w1 := (wr.setCell ⟨go28, ((ji25) : Int).toNat, none⟩ (.bool true))) ?hg ?ho ?hn ?hr ?_; (case ho => rfl); (case hg => rfl); (case hn => rfl); (case hr => first | (go_simp; done) | (go_simp; rfl)); intro w31 hw; have hg : wr.grownBy w31 (some go28) := (by rw [hw]; exact HP30.2); have hp_ : Kd.R Kd.bool 4 w31 w.heap.size (fun k_ => some k_ ≠ (.slice Ao13 x8_1.length co13 : Value).ownBlock) (.slice (some ⟨go28, 0, none⟩) x10_2.length co28) y133 := (by rw [hw, Ny133.out]; exact HP30.1); clear HP30; have n0_ := Aside0.mk (Kd.R_after (v := (.slice (some ⟨go28, 0, none⟩) x10_2.length co28)) (v1 := (.slice (some ⟨go28, 0, none⟩) x10_2.length co28)) (ok := (fun _ => True)) (by (with_reducible repeat (first | apply Kd.R_alloc | apply Kd.R_drewN | apply Kd.R_drew)); exact Kd.R_mono HO_8.out (fun _ hk => ⟨trivial, hk⟩)) hg (.inl rfl)); have n1_ := Aside0.mk (hp_); have n2_ := Aside0.mk (blk_grown (g := gb125) (o := .cells #[.int .i64 (wrap64 (1 + (wrap64 (Int.tmod (IntKind.u64.wrap (a0)) (IntKind.u64.wrap (ji10)))))), .int .i64 (ji10)] 24 (0, 0)) (by (with_reducible repeat (first | refine blk_drewN ?_ _ | refine blk_drew ?_ | refine blk_alloc ?_ _)); exact BK125.out) hg (Kd.R_ne HO_10.out BK125.out (by decide))); have n3_ := Aside0.mk ((by rw [hw]; exact below_set (HB.out) GB28.out : Below w.heap.size w w31)); clear HO_8; clear HO_10; clear BK125; clear HB; have HO_8 := n0_; have HO_10 := n1_; have BK125 := n2_; have HB := n3_; clear n0_ n1_ n2_ n3_; clear hg hw hp_))
                          first | go_roundg k2 | (subst hji25; go_roundg k2) | (subst hji25; subst hji10; go_roundg k2)
                          case measure => have := HK1.out; have := HK2.out; omega
                          case rel => exact ⟨(y133), (wrap64 (x11_2 + 1)), (by first | rfl | (simp; done) | (simp [*]; done)), H', ⟨by have := HK1.out; have := HK2.out; omega⟩, ⟨by (with_reducible repeat (first | apply Kd.R_alloc | apply Kd.R_drewN | apply Kd.R_drew)); exact Kd.R_mono HO_8.out (fun _ hk => hk.2)⟩, ⟨by (with_reducible repeat (first | apply Kd.R_alloc | apply Kd.R_drewN | apply Kd.R_drew)); exact HO_10.out⟩, ⟨by (with_reducible repeat (first | refine blk_drewN ?_ _ | refine blk_drew ?_ | refine blk_alloc ?_ _)); exact BK125.out⟩, ⟨by repeat (first | (with_reducible first | exact HB.out | apply below_alloc | apply pw_below_drewN | apply below_drew1 | refine below_set ?_ GE125.out) | exact HB.out)⟩⟩
                        · rw [if_neg c27] at H
                          exact absurd H (by simp)
                      · rw [if_neg c26] at H
                        exact absurd H (by simp)
                  · rw [if_neg c17] at H
                    have c17b0 : decide (x11_2 < (wrap64 (1 + (wrap64 (Int.tmod (IntKind.u64.wrap (a0)) (IntKind.u64.wrap (ji10))))))) = false := decide_eq_false c17
                    clear c17
                    by_cases c32 : x8_1.length + x10_2.length < 140737488355328
                    · rw [if_pos c32] at H
                      have LMc32 := Aside0.mk c32
                      clear c32
                      obtain ⟨y134, hy134⟩ : ∃ y_ : List Bool, y_ = (x8_1 ++ x10_2) := ⟨_, rfl⟩
                      replace H : (tithelaw21_SupplyMet.l0 k2 (wrap64 (Int.tmod (IntKind.u64.wrap (a2)) 200)) y134 (wrap64 (x9_1 + 1)) (wrap64 (1 + (wrap64 (Int.tmod (IntKind.u64.wrap (a0)) (IntKind.u64.wrap (ji10)))))) (ji10)) = some r := by first | (rw [hy134]; with_reducible exact H) | (have H2_ := (Option.bind_some _ _).symm.trans H; rw [hy134]; with_reducible exact H2_) | (have H2_ := (Option.bind_some _ _).symm.trans H; with_reducible exact H2_) | with_reducible exact H | (rw [hy134]; exact H) | exact H
                      have Ny134 := Aside0.mk hy134
                      clear hy134
                      have H' := Aside0.mk H
                      clear H
                      have hcz33_0 : wr.cell? ⟨gb125, 0, none⟩ = some (.int .i64 (wrap64 (1 + (wrap64 (Int.tmod (IntKind.u64.wrap (a0)) (IntKind.u64.wrap (ji10))))))) := (blk_cell BK125.out 0).trans (by first | rfl | (rw [← hji10]; rfl) )
                      have hcz33_1 : wr.cell? ⟨gb125, 1, none⟩ = some (.int .i64 (ji10)) := (blk_cell BK125.out 1).trans (by first | rfl | (rw [← hji10]; rfl) )
                      have hfz33_0 := blk_frozen BK125.out 0
                      have hfz33_1 := blk_frozen BK125.out 1
                      obtain ⟨Ao35, co35, eo35⟩ := Kd.R_slice HO_10.out
                      subst eo35
                      go_wp2_with (first | ((with_reducible refine gate_builtin (b := .append) (xs := #[.tmp 70, .tmp 71]) rfl ?_); at_builtin; refine Kd.R_append_rows Kd.bool (w0 := w) w.heap.size rfl (.tmp 70) (.tmp 71) 25 4 (.bool false) 1 rfl Try.underlying25 info4 rfl (by decide) (by omega) (.slice Ao13 x8_1.length co13) x8_1 x10_2 _ _ _ (fun k_ => some k_ ≠ (.slice Ao35 x10_2.length co35 : Value).ownBlock) (fun _ => False) rfl rfl ?aO ?aR (fun _ _ h => h) (fun _ h => h.elim) ?aF ?aB ?aS ?aL ?_; (case aR => repeat (first | exact (Kd.R_reads' HO_10.out).2.2 | (with_reducible refine Kd.C_alloc ?_ _) | (with_reducible refine Kd.C_drewN ?_ _) | (with_reducible refine Kd.C_drew ?_))); (case aB => exact (by repeat (first | (with_reducible first | exact HB.out | apply below_alloc | apply pw_below_drewN | apply below_drew1 | refine below_set ?_ GE125.out) | exact HB.out))); (case aF => exact (fun k_ hk => Kd.fresh' (Kd.R_lt (by (with_reducible repeat (first | apply Kd.R_alloc | apply Kd.R_drewN | apply Kd.R_drew)); exact HO_10.out)) k_ hk)); (case aO => exact (by (with_reducible repeat (first | apply Kd.R_alloc | apply Kd.R_drewN | apply Kd.R_drew)); exact HO_8.out)); (case aS => exact (below_size (by repeat (first | (with_reducible first | exact HB.out | apply below_alloc | apply pw_below_drewN | apply below_drew1 | refine below_set ?_ GE125.out) | exact HB.out)))); (case aL => have := LMc32.out; omega); intro v135 w34 ho hb hg hat; rw [← Ny134.out] at ho; have n0_ := Aside0.mk (Kd.R_after (ok := (fun _ => True)) (by (with_reducible repeat (first | apply Kd.R_alloc | apply Kd.R_drewN | apply Kd.R_drew)); exact Kd.R_mono HO_10.out (fun _ hk => ⟨trivial, hk⟩)) hg hat); have n1_ := Aside0.mk (blk_grown (g := gb125) (o := .cells #[.int .i64 (wrap64 (1 + (wrap64 (Int.tmod (IntKind.u64.wrap (a0)) (IntKind.u64.wrap (ji10)))))), .int .i64 (ji10)] 24 (0, 0)) (by (with_reducible repeat (first | refine blk_drewN ?_ _ | refine blk_drew ?_ | refine blk_alloc ?_ _)); exact BK125.out) hg (Kd.R_ne HO_8.out BK125.out (by decide))); have n2_ := Aside0.mk (hb); have n3_ := Aside0.mk (ho); clear HO_10; clear BK125; clear HB; clear HO_8; have HO_10 := n0_; have BK125 := n1_; have HB := n2_; have HO136 := n3_; clear n0_ n1_ n2_ n3_; clear ho hb hg hat))
                      first | go_roundg k2 | (subst hji10; go_roundg k2)
                      case measure => have := HK1.out; have := HK2.out; omega
                      case rel => exact ⟨(y134), (wrap64 (x9_1 + 1)), (by first | rfl | (simp; done) | (simp [*]; done)), H', ⟨by have := HK1.out; have := HK2.out; omega⟩, ⟨by (with_reducible repeat (first | apply Kd.R_alloc | apply Kd.R_drewN | apply Kd.R_drew)); exact Kd.R_mono HO136.out (fun _ hk => trivial)⟩, ⟨by (with_reducible repeat (first | refine blk_drewN ?_ _ | refine blk_drew ?_ | refine blk_alloc ?_ _)); exact BK125.out⟩, ⟨by repeat (first | (with_reducible first | exact HB.out | apply below_alloc | apply pw_below_drewN | apply below_drew1 | refine below_set ?_ GE125.out) | exact HB.out)⟩⟩
                    · rw [if_neg c32] at H
                      exact absurd H (by simp)
            · rw [if_neg c12] at H
              exact absurd H (by simp)
          · rw [if_neg c11] at H
            exact absurd H (by simp)
        · rw [if_neg c9] at H
          have c9b0 : decide ((x8_1.length : Int) < (wrap64 ((wrap64 (Int.tmod (IntKind.u64.wrap (a2)) 200)) + (wrap64 (1 + (wrap64 (Int.tmod (IntKind.u64.wrap (a1)) 40))))))) = false := decide_eq_false c9
          clear c9
          replace H := Option.bind_eq_some_iff.mp H
          obtain ⟨⟨t137, t138⟩, A360, H⟩ := H
          replace H : (tithelaw21_SupplyMet.l2 k1 (wrap64 (Int.tmod (IntKind.u64.wrap (a2)) 200)) x8_1 t137 t138 (([] : List Bool)) 0 (wrap64 (1 + (wrap64 (Int.tmod (IntKind.u64.wrap (a0)) (IntKind.u64.wrap (wrap64 (1 + (wrap64 (Int.tmod (IntKind.u64.wrap (a1)) 40))))))))) (wrap64 (1 + (wrap64 (Int.tmod (IntKind.u64.wrap (a1)) 40))))) = some r := H
          have A36 := Aside0.mk A360
          clear A360
          obtain ⟨y139, hy139⟩ : ∃ y_ : List Bool, y_ = (([] : List Bool)) := ⟨_, rfl⟩
          replace H : (tithelaw21_SupplyMet.l2 k1 (wrap64 (Int.tmod (IntKind.u64.wrap (a2)) 200)) x8_1 t137 t138 y139 0 (wrap64 (1 + (wrap64 (Int.tmod (IntKind.u64.wrap (a0)) (IntKind.u64.wrap (wrap64 (1 + (wrap64 (Int.tmod (IntKind.u64.wrap (a1)) 40))))))))) (wrap64 (1 + (wrap64 (Int.tmod (IntKind.u64.wrap (a1)) 40))))) = some r := by first | (rw [hy139]; with_reducible exact H) | (have H2_ := (Option.bind_some _ _).symm.trans H; rw [hy139]; with_reducible exact H2_) | (have H2_ := (Option.bind_some _ _).symm.trans H; with_reducible exact H2_) | with_reducible exact H | (rw [hy139]; exact H) | exact H
          have Ny139 := Aside0.mk hy139
          clear hy139
          have H' := Aside0.mk H
          clear H
          obtain ⟨Ao37, co37, eo37⟩ := Kd.R_slice HO_8.out
          subst eo37
          have hcz38_0 : wr.cell? ⟨gb125, 0, none⟩ = some (.int .i64 (wrap64 (1 + (wrap64 (Int.tmod (IntKind.u64.wrap (a0)) (IntKind.u64.wrap (wrap64 (1 + (wrap64 (Int.tmod (IntKind.u64.wrap (a1)) 40)))))))))) := (blk_cell BK125.out 0).trans (by rfl)
          have hcz38_1 : wr.cell? ⟨gb125, 1, none⟩ = some (.int .i64 (wrap64 (1 + (wrap64 (Int.tmod (IntKind.u64.wrap (a1)) 40))))) := (blk_cell BK125.out 1).trans (by rfl)
          have hfz38_0 := blk_frozen BK125.out 0
          have hfz38_1 := blk_frozen BK125.out 1
          go_wp2_with (first | ((with_reducible refine gate_callee (f := 6) rfl ?_); refine goesL_ (some 76) rfl rfl Try.func6 (by kernel_rfl) rfl #[.agg #[.int .i64 (wrap64 (1 + (wrap64 (Int.tmod (IntKind.u64.wrap (a0)) (IntKind.u64.wrap (wrap64 (1 + (wrap64 (Int.tmod (IntKind.u64.wrap (a1)) 40))))))))), .int .i64 (wrap64 (1 + (wrap64 (Int.tmod (IntKind.u64.wrap (a1)) 40))))], .int .i64 (wrap64 (Int.tmod (IntKind.u64.wrap (a2)) 200))] rfl (by (try simp only [List.map_toArray, List.map_cons, List.map_nil]); first | done | rfl | (simp only [List.length_drop, List.length_take]; rfl)) ?_; (with_reducible refine (supply_Least.calls (wrap64 (1 + (wrap64 (Int.tmod (IntKind.u64.wrap (a0)) (IntKind.u64.wrap (wrap64 (1 + (wrap64 (Int.tmod (IntKind.u64.wrap (a1)) 40))))))))) (wrap64 (1 + (wrap64 (Int.tmod (IntKind.u64.wrap (a1)) 40)))) (wrap64 (Int.tmod (IntKind.u64.wrap (a2)) 200)) t137 t138 _ A36.out).mono ?_); rintro e w39 ⟨rfl, hb⟩; refine ⟨_, rfl, ?_⟩; have n0_ := Aside0.mk (Kd.R_below (by (with_reducible repeat (first | apply Kd.R_alloc | apply Kd.R_drewN | apply Kd.R_drew)); exact HO_8.out) hb); have n1_ := Aside0.mk (blk_below (g := gb125) (o := .cells #[.int .i64 (wrap64 (1 + (wrap64 (Int.tmod (IntKind.u64.wrap (a0)) (IntKind.u64.wrap (wrap64 (1 + (wrap64 (Int.tmod (IntKind.u64.wrap (a1)) 40))))))))), .int .i64 (wrap64 (1 + (wrap64 (Int.tmod (IntKind.u64.wrap (a1)) 40))))] 24 (0, 0)) (by (with_reducible repeat (first | refine blk_drewN ?_ _ | refine blk_drew ?_ | refine blk_alloc ?_ _)); exact BK125.out) hb); have n2_ := Aside0.mk (below_step (by repeat (first | (with_reducible first | exact HB.out | apply below_alloc | apply pw_below_drewN | apply below_drew1 | refine below_set ?_ GE125.out) | exact HB.out)) hb); clear HO_8; clear BK125; clear HB; have HO_8 := n0_; have BK125 := n1_; have HB := n2_; clear n0_ n1_ n2_; (try clear hb); (try clear hb2); (try clear hk); (try clear hi); (try simp only [errW_none, errW_some])) | ((with_reducible refine gate_dst (N := 79) rfl ?_); refine Kd.R_lit Kd.bool _ 4 ?hg (N := 79) ?hd (xs := ([] : List Bool)) (inner := []) (ok := fun _ => True) (okp := fun _ => True) ?hr ?hp (fun _ hk => hk) trivial (Below.refl _ _) (Nat.le_refl _) (by simp) ?_; (case hd => rfl); (case hg => rfl); (case hr => first | (go_simp; done) | (go_simp; rfl)); (case hp => exact (Reps.none _ _)); intro v140 w40 ho41 hb hg_ hnew_; clear hg_ hnew_; (first | rw [← Ny139.out] at ho41 | (simp only [Int.reduceToNat] at ho41; rw [← Ny139.out] at ho41)); have n0_ := Aside0.mk (Kd.R_elder' (by (with_reducible repeat (first | apply Kd.R_alloc | apply Kd.R_drewN | apply Kd.R_drew)); exact HO_8.out) (Kd.R_base ho41) hb); have n1_ := Aside0.mk (Kd.R_lower (Kd.R_new' ho41 (Kd.R_lt (by (with_reducible repeat (first | apply Kd.R_alloc | apply Kd.R_drewN | apply Kd.R_drew)); exact HO_8.out))) (below_size (by repeat (first | (with_reducible first | exact HB.out | apply below_alloc | apply pw_below_drewN | apply below_drew1 | refine below_set ?_ GE125.out) | exact HB.out)))); have n2_ := Aside0.mk (blk_below (g := gb125) (o := .cells #[.int .i64 (wrap64 (1 + (wrap64 (Int.tmod (IntKind.u64.wrap (a0)) (IntKind.u64.wrap (wrap64 (1 + (wrap64 (Int.tmod (IntKind.u64.wrap (a1)) 40))))))))), .int .i64 (wrap64 (1 + (wrap64 (Int.tmod (IntKind.u64.wrap (a1)) 40))))] 24 (0, 0)) (by (with_reducible repeat (first | refine blk_drewN ?_ _ | refine blk_drew ?_ | refine blk_alloc ?_ _)); exact BK125.out) hb); have n3_ := Aside0.mk (below_step (by repeat (first | (with_reducible first | exact HB.out | apply below_alloc | apply pw_below_drewN | apply below_drew1 | refine below_set ?_ GE125.out) | exact HB.out)) hb); clear HO_8; clear BK125; clear HB; have HO_8 := n0_; have HO141 := n1_; have BK125 := n2_; have HB := n3_; clear n0_ n1_ n2_ n3_; clear hb ho41))
          go_loopg [14, 15] k1 (fun kq v14 v15 w' => ∃ (x8_2 : List Bool) (x14_2 : List Bool) (x15_2 : Int), v15 = .int .i64 x15_2 ∧ Aside0 (tithelaw21_SupplyMet.l2 kq (wrap64 (Int.tmod (IntKind.u64.wrap (a2)) 200)) x8_2 t137 t138 x14_2 x15_2 (wrap64 (1 + (wrap64 (Int.tmod (IntKind.u64.wrap (a0)) (IntKind.u64.wrap (wrap64 (1 + (wrap64 (Int.tmod (IntKind.u64.wrap (a1)) 40))))))))) (wrap64 (1 + (wrap64 (Int.tmod (IntKind.u64.wrap (a1)) 40)))) = some r) ∧ Aside0 (kq ≤ k1) ∧ Aside0 (Kd.R Kd.bool 4 w' w.heap.size (fun k_ => some k_ ≠ (v14 : Value).ownBlock) (.slice Ao37 x8_1.length co37) x8_2) ∧ Aside0 (Kd.R Kd.bool 4 w' w.heap.size (fun k_ => some k_ ≠ ((.slice Ao37 x8_1.length co37) : Value).ownBlock) v14 x14_2) ∧ Aside0 (w'.heap[gb125]? = some (.cells #[.int .i64 (wrap64 (1 + (wrap64 (Int.tmod (IntKind.u64.wrap (a0)) (IntKind.u64.wrap (wrap64 (1 + (wrap64 (Int.tmod (IntKind.u64.wrap (a1)) 40))))))))), .int .i64 (wrap64 (1 + (wrap64 (Int.tmod (IntKind.u64.wrap (a1)) 40))))] 24 (0, 0))) ∧ Aside0 (Below w.heap.size w w'))
          case atStart => exact ⟨(x8_1), (y139), (0), (by first | rfl | (simp; done) | (simp [*]; done)), H', ⟨Nat.le_refl _⟩, ⟨by (with_reducible repeat (first | apply Kd.R_alloc | apply Kd.R_drewN | apply Kd.R_drew)); exact Kd.R_mono HO_8.out (fun _ hk => hk.2)⟩, ⟨by (with_reducible repeat (first | apply Kd.R_alloc | apply Kd.R_drewN | apply Kd.R_drew)); exact Kd.R_mono HO141.out (fun _ hk => hk.2)⟩, ⟨by (with_reducible repeat (first | refine blk_drewN ?_ _ | refine blk_drew ?_ | refine blk_alloc ?_ _)); exact BK125.out⟩, ⟨by repeat (first | (with_reducible first | exact HB.out | apply below_alloc | apply pw_below_drewN | apply below_drew1 | refine below_set ?_ GE125.out) | exact HB.out)⟩⟩
          case round =>
            clear H'
            try clear c1
            try clear c2
            try clear p2
            try clear q2
            try clear hx2
            try clear c3
            try clear c4
            try clear c4b0
            try clear c4b1
            try clear c6
            try clear p6
            try clear c9
            try clear c9b0
            try clear c11
            try clear c11b0
            try clear c11b1
            try clear c12
            try clear c12b0
            try clear c12b1
            try clear c17
            try clear c17b0
            try clear c18
            try clear c18b0
            try clear c18b1
            try clear c19
            try clear c19b0
            try clear c20
            try clear c20b0
            try clear p21
            try clear q21
            try clear hx21
            try clear hf21
            try clear c26
            try clear c26b0
            try clear c27
            try clear c27b0
            try clear p28
            try clear q28
            try clear hx28
            try clear hf28
            try clear c32
            try clear hcz14_0
            try clear hcz14_1
            try clear hcz22_0
            try clear hcz22_1
            try clear hcz29_0
            try clear hcz29_1
            try clear hcz33_0
            try clear hcz33_1
            try clear hcz38_0
            try clear hcz38_1
            try clear hcz6_0
            try clear hcz6_1
            try clear hfz14_0
            try clear hfz14_1
            try clear hfz22_0
            try clear hfz22_1
            try clear hfz29_0
            try clear hfz29_1
            try clear hfz33_0
            try clear hfz33_1
            try clear hfz38_0
            try clear hfz38_1
            try clear hfz6_0
            try clear hfz6_1
            try clear hx21_0
            try clear hx28_0
            try clear p2
            try clear p21
            try clear p28
            try clear p6
            try clear q21
            try clear q28
            obtain ⟨x8_2, x14_2, x15_2, rfl, HA, HK2, HO_8, HO_14, BK125, HB⟩ := hrel
            have hl8_2 := (Kd.R_reads' HO_8.out).1
            rw [hl8_2] at HO_8
            (try simp only [hl8_2])
            (try simp only [hl8_2] at BK125)
            (try simp only [hl8_2] at HO_14)
            cases gk with
            | zero => exact absurd HA.out (by simp [tithelaw21_SupplyMet.l2])
            | succ k2 =>
              have H := HA.out
              clear HA
              simp only [tithelaw21_SupplyMet.l2] at H
              by_cases c42 : (x14_2.length : Int) < (wrap64 ((wrap64 (Int.tmod (IntKind.u64.wrap (a2)) 200)) + (wrap64 (1 + (wrap64 (Int.tmod (IntKind.u64.wrap (a1)) 40))))))
              · rw [if_pos c42] at H
                have c42b0 : decide ((x14_2.length : Int) < (wrap64 ((wrap64 (Int.tmod (IntKind.u64.wrap (a2)) 200)) + (wrap64 (1 + (wrap64 (Int.tmod (IntKind.u64.wrap (a1)) 40))))))) = true := decide_eq_true c42
                clear c42
                obtain ⟨ji43, hji43⟩ : ∃ j_ : Int, (wrap64 (1 + (wrap64 (Int.tmod (IntKind.u64.wrap (a1)) 40)))) = j_ := ⟨_, rfl⟩
                (try rw [hji43] at BK125)
                (try rw [hji43] at BK125)
                (try rw [hji43] at BK125)
                (try rw [hji43] at BK125)
                (try rw [hji43] at BK125)
                (try rw [hji43] at BK125)
                (try rw [hji43] at BK125)
                (try rw [hji43] at BK125)
                replace H : (if 0 ≤ (ji43) then (if ((ji43) : Int).toNat ≤ 281474976710656 then (tithelaw21_SupplyMet.l3 k2 (wrap64 (Int.tmod (IntKind.u64.wrap (a2)) 200)) x8_2 t137 t138 x14_2 x15_2 (List.replicate ((ji43) : Int).toNat false) 0 (wrap64 (1 + (wrap64 (Int.tmod (IntKind.u64.wrap (a0)) (IntKind.u64.wrap (ji43)))))) (ji43)) else (none)) else (none)) = some r := by first | (rw [hji43] at H; exact H) | (simp only [hji43] at H ⊢; exact H)
                (try rw [hji43] at c4b0)
                (try rw [hji43] at c4b1)
                (try rw [hji43] at c9b0)
                (try rw [hji43] at c42b0)
                have hji43w : (IntKind.i64.wrap (1 + (wrap64 (Int.tmod (IntKind.u64.wrap (a1)) 40)))) = ji43 := (i64_w _).trans hji43
                by_cases c44 : 0 ≤ (ji43)
                · rw [if_pos c44] at H
                  have c44b0 := eq_true c44
                  have c44b1 : decide (0 ≤ (ji43)) = true := decide_eq_true c44
                  clear c44
                  by_cases c45 : ((ji43) : Int).toNat ≤ 281474976710656
                  · rw [if_pos c45] at H
                    have c45b0 := eq_true c45
                    have c45b1 : decide (((ji43) : Int).toNat ≤ 281474976710656) = true := decide_eq_true c45
                    clear c45
                    obtain ⟨y142, hy142⟩ : ∃ y_ : List Bool, y_ = (List.replicate ((ji43) : Int).toNat false) := ⟨_, rfl⟩
                    replace H : (tithelaw21_SupplyMet.l3 k2 (wrap64 (Int.tmod (IntKind.u64.wrap (a2)) 200)) x8_2 t137 t138 x14_2 x15_2 y142 0 (wrap64 (1 + (wrap64 (Int.tmod (IntKind.u64.wrap (a0)) (IntKind.u64.wrap (ji43)))))) (ji43)) = some r := by first | (rw [hy142]; with_reducible exact H) | (have H2_ := (Option.bind_some _ _).symm.trans H; rw [hy142]; with_reducible exact H2_) | (have H2_ := (Option.bind_some _ _).symm.trans H; with_reducible exact H2_) | with_reducible exact H | (rw [hy142]; exact H) | exact H
                    have Ny142 := Aside0.mk hy142
                    clear hy142
                    have H' := Aside0.mk H
                    clear H
                    obtain ⟨Ao46, co46, eo46⟩ := Kd.R_slice HO_14.out
                    subst eo46
                    have hcz47_0 : wr.cell? ⟨gb125, 0, none⟩ = some (.int .i64 (wrap64 (1 + (wrap64 (Int.tmod (IntKind.u64.wrap (a0)) (IntKind.u64.wrap (ji43))))))) := (blk_cell BK125.out 0).trans (by first | rfl | (rw [← hji43]; rfl) )
                    have hcz47_1 : wr.cell? ⟨gb125, 1, none⟩ = some (.int .i64 (ji43)) := (blk_cell BK125.out 1).trans (by first | rfl | (rw [← hji43]; rfl) )
                    have hfz47_0 := blk_frozen BK125.out 0
                    have hfz47_1 := blk_frozen BK125.out 1
                    go_wp2_with (first | ((with_reducible refine gate_dst (N := 91) rfl ?_); refine Kd.R_make Kd.bool _ 4 rfl (N := 91) rfl 25 _ _ rfl (ji43) rfl rfl Try.underlying25 (.bool false) 1 info4 rfl (by decide) (by omega) false (ok := fun _ => True) (okp := fun _ => True) rfl (fun _ hk => hk) trivial (of_decide_eq_true (by first | (with_reducible assumption) | assumption)) (Nat.le_trans (Nat.mul_le_mul_right _ (of_decide_eq_true (by first | (with_reducible assumption) | assumption) : (ji43).toNat ≤ 281474976710656)) (by omega)) (Below.refl _ _) (Nat.le_refl _) ?_; intro v143 w48 ho49 hb hg_ hnew_; clear hg_ hnew_; (first | rw [← Ny142.out] at ho49 | (simp only [Int.reduceToNat] at ho49; rw [← Ny142.out] at ho49)); have n0_ := Aside0.mk (Kd.R_elder' (by (with_reducible repeat (first | apply Kd.R_alloc | apply Kd.R_drewN | apply Kd.R_drew)); exact HO_8.out) (Kd.R_base ho49) hb); have n1_ := Aside0.mk (Kd.R_elder' (by (with_reducible repeat (first | apply Kd.R_alloc | apply Kd.R_drewN | apply Kd.R_drew)); exact HO_14.out) (Kd.R_base ho49) hb); have n2_ := Aside0.mk (Kd.R_lower (Kd.R_new' (Kd.R_new' ho49 (Kd.R_lt (by (with_reducible repeat (first | apply Kd.R_alloc | apply Kd.R_drewN | apply Kd.R_drew)); exact HO_8.out))) (Kd.R_lt (by (with_reducible repeat (first | apply Kd.R_alloc | apply Kd.R_drewN | apply Kd.R_drew)); exact HO_14.out))) (below_size (by repeat (first | (with_reducible first | exact HB.out | apply below_alloc | apply pw_below_drewN | apply below_drew1 | refine below_set ?_ GE125.out) | exact HB.out)))); have n3_ := Aside0.mk (blk_below (g := gb125) (o := .cells #[.int .i64 (wrap64 (1 + (wrap64 (Int.tmod (IntKind.u64.wrap (a0)) (IntKind.u64.wrap (ji43)))))), .int .i64 (ji43)] 24 (0, 0)) (by (with_reducible repeat (first | refine blk_drewN ?_ _ | refine blk_drew ?_ | refine blk_alloc ?_ _)); exact BK125.out) hb); have n4_ := Aside0.mk (below_step (by repeat (first | (with_reducible first | exact HB.out | apply below_alloc | apply pw_below_drewN | apply below_drew1 | refine below_set ?_ GE125.out) | exact HB.out)) hb); clear HO_8; clear HO_14; clear BK125; clear HB; have HO_8 := n0_; have HO_14 := n1_; have HO144 := n2_; have BK125 := n3_; have HB := n4_; clear n0_ n1_ n2_ n3_ n4_; clear hb ho49))
                    go_loopg [17] k2 (fun kq v17 w' => ∃ (x16_3 : List Bool) (x17_3 : Int), v17 = .int .i64 x17_3 ∧ Aside0 (tithelaw21_SupplyMet.l3 kq (wrap64 (Int.tmod (IntKind.u64.wrap (a2)) 200)) x8_2 t137 t138 x14_2 x15_2 x16_3 x17_3 (wrap64 (1 + (wrap64 (Int.tmod (IntKind.u64.wrap (a0)) (IntKind.u64.wrap (ji43)))))) (ji43) = some r) ∧ Aside0 (kq ≤ k2) ∧ Aside0 (Kd.R Kd.bool 4 w' w.heap.size (fun k_ => some k_ ≠ ((.slice Ao46 x14_2.length co46) : Value).ownBlock ∧ some k_ ≠ (v143 : Value).ownBlock) (.slice Ao37 x8_2.length co37) x8_2) ∧ Aside0 (Kd.R Kd.bool 4 w' w.heap.size (fun k_ => some k_ ≠ ((.slice Ao37 x8_2.length co37) : Value).ownBlock ∧ some k_ ≠ (v143 : Value).ownBlock) (.slice Ao46 x14_2.length co46) x14_2) ∧ Aside0 (Kd.R Kd.bool 4 w' w.heap.size (fun k_ => some k_ ≠ ((.slice Ao37 x8_2.length co37) : Value).ownBlock ∧ some k_ ≠ ((.slice Ao46 x14_2.length co46) : Value).ownBlock) v143 x16_3) ∧ Aside0 (w'.heap[gb125]? = some (.cells #[.int .i64 (wrap64 (1 + (wrap64 (Int.tmod (IntKind.u64.wrap (a0)) (IntKind.u64.wrap (ji43)))))), .int .i64 (ji43)] 24 (0, 0))) ∧ Aside0 (Below w.heap.size w w'))
                    case atStart => exact ⟨(y142), (0), (by first | rfl | (simp; done) | (simp [*]; done)), H', ⟨Nat.le_refl _⟩, ⟨by (try simp only [hl8_2]); (with_reducible repeat (first | apply Kd.R_alloc | apply Kd.R_drewN | apply Kd.R_drew)); exact HO_8.out⟩, ⟨by (try simp only [hl8_2]); (with_reducible repeat (first | apply Kd.R_alloc | apply Kd.R_drewN | apply Kd.R_drew)); exact HO_14.out⟩, ⟨by (try simp only [hl8_2]); (with_reducible repeat (first | apply Kd.R_alloc | apply Kd.R_drewN | apply Kd.R_drew)); exact Kd.R_mono HO144.out (fun _ hk => ⟨hk.1.2, hk.2⟩)⟩, ⟨by (try simp only [hl8_2]); (with_reducible repeat (first | refine blk_drewN ?_ _ | refine blk_drew ?_ | refine blk_alloc ?_ _)); exact BK125.out⟩, ⟨by repeat (first | (with_reducible first | exact HB.out | apply below_alloc | apply pw_below_drewN | apply below_drew1 | refine below_set ?_ GE125.out) | exact HB.out)⟩⟩
                    case round =>
                      clear H'
                      try clear c1
                      try clear c2
                      try clear p2
                      try clear q2
                      try clear hx2
                      try clear c3
                      try clear c4
                      try clear c4b0
                      try clear c4b1
                      try clear c6
                      try clear p6
                      try clear c9
                      try clear c9b0
                      try clear c11
                      try clear c11b0
                      try clear c11b1
                      try clear c12
                      try clear c12b0
                      try clear c12b1
                      try clear c17
                      try clear c17b0
                      try clear c18
                      try clear c18b0
                      try clear c18b1
                      try clear c19
                      try clear c19b0
                      try clear c20
                      try clear c20b0
                      try clear p21
                      try clear q21
                      try clear hx21
                      try clear hf21
                      try clear c26
                      try clear c26b0
                      try clear c27
                      try clear c27b0
                      try clear p28
                      try clear q28
                      try clear hx28
                      try clear hf28
                      try clear c32
                      try clear c42
                      try clear c42b0
                      try clear c44
                      try clear c44b0
                      try clear c44b1
                      try clear c45
                      try clear c45b0
                      try clear c45b1
                      try clear hcz14_0
                      try clear hcz14_1
                      try clear hcz22_0
                      try clear hcz22_1
                      try clear hcz29_0
                      try clear hcz29_1
                      try clear hcz33_0
                      try clear hcz33_1
                      try clear hcz38_0
                      try clear hcz38_1
                      try clear hcz47_0
                      try clear hcz47_1
                      try clear hcz6_0
                      try clear hcz6_1
                      try clear hfz14_0
                      try clear hfz14_1
                      try clear hfz22_0
                      try clear hfz22_1
                      try clear hfz29_0
                      try clear hfz29_1
                      try clear hfz33_0
                      try clear hfz33_1
                      try clear hfz38_0
                      try clear hfz38_1
                      try clear hfz47_0
                      try clear hfz47_1
                      try clear hfz6_0
                      try clear hfz6_1
                      try clear hx21_0
                      try clear hx28_0
                      try clear p2
                      try clear p21
                      try clear p28
                      try clear p6
                      try clear q2
                      try clear q21
                      try clear q28
                      obtain ⟨x16_3, x17_3, rfl, HA, HK3, HO_8, HO_14, HO_16, BK125, HB⟩ := hrel
                      cases gk with
                      | zero => exact absurd HA.out (by simp [tithelaw21_SupplyMet.l3])
                      | succ k3 =>
                        have H := HA.out
                        clear HA
                        simp only [tithelaw21_SupplyMet.l3] at H
                        by_cases c50 : x17_3 < (wrap64 (1 + (wrap64 (Int.tmod (IntKind.u64.wrap (a0)) (IntKind.u64.wrap (ji43))))))
                        · rw [if_pos c50] at H
                          have c50b0 : decide (x17_3 < (wrap64 (1 + (wrap64 (Int.tmod (IntKind.u64.wrap (a0)) (IntKind.u64.wrap (ji43))))))) = true := decide_eq_true c50
                          clear c50
                          by_cases c51 : x15_2 = 0
                          · rw [if_pos c51] at H
                            have c51b0 : (x15_2 == 0) = true := beq_iff_eq.mpr c51
                            have c51b1 : (x15_2 != 0) = false := bne_eq_false_iff_eq.mpr c51
                            clear c51
                            obtain ⟨ji52, hji52⟩ : ∃ j_ : Int, (wrap64 ((wrap64 ((ji43) - 1)) - x17_3)) = j_ := ⟨_, rfl⟩
                            (try rw [hji52] at BK125)
                            (try rw [hji52] at BK125)
                            (try rw [hji52] at BK125)
                            (try rw [hji52] at BK125)
                            (try rw [hji52] at BK125)
                            (try rw [hji52] at BK125)
                            (try rw [hji52] at BK125)
                            (try rw [hji52] at BK125)
                            replace H : (if 0 ≤ (ji52) then (if (ji52) < (x16_3.length : Int) then (tithelaw21_SupplyMet.l3 k3 (wrap64 (Int.tmod (IntKind.u64.wrap (a2)) 200)) x8_2 t137 t138 x14_2 x15_2 (x16_3.set ((ji52) : Int).toNat true) (wrap64 (x17_3 + 1)) (wrap64 (1 + (wrap64 (Int.tmod (IntKind.u64.wrap (a0)) (IntKind.u64.wrap (ji43)))))) (ji43)) else (none)) else (none)) = some r := by first | (rw [hji52] at H; exact H) | (simp only [hji52] at H ⊢; exact H)
                            have hji52w : (IntKind.i64.wrap ((wrap64 ((ji43) - 1)) - x17_3)) = ji52 := (i64_w _).trans hji52
                            by_cases c53 : 0 ≤ (ji52)
                            · rw [if_pos c53] at H
                              have c53b0 : decide (0 ≤ (ji52)) = true := decide_eq_true c53
                              clear c53
                              by_cases c54 : (ji52) < (x16_3.length : Int)
                              · rw [if_pos c54] at H
                                have c54b0 : decide ((ji52) < (x16_3.length : Int)) = true := decide_eq_true c54
                                clear c54
                                obtain ⟨y145, hy145⟩ : ∃ y_ : List Bool, y_ = (x16_3.set ((ji52) : Int).toNat true) := ⟨_, rfl⟩
                                replace H : (tithelaw21_SupplyMet.l3 k3 (wrap64 (Int.tmod (IntKind.u64.wrap (a2)) 200)) x8_2 t137 t138 x14_2 x15_2 y145 (wrap64 (x17_3 + 1)) (wrap64 (1 + (wrap64 (Int.tmod (IntKind.u64.wrap (a0)) (IntKind.u64.wrap (ji43)))))) (ji43)) = some r := by first | (rw [hy145]; with_reducible exact H) | (have H2_ := (Option.bind_some _ _).symm.trans H; rw [hy145]; with_reducible exact H2_) | (have H2_ := (Option.bind_some _ _).symm.trans H; with_reducible exact H2_) | with_reducible exact H | (rw [hy145]; exact H) | exact H
                                have Ny145 := Aside0.mk hy145
                                clear hy145
                                have H' := Aside0.mk H
                                clear H
                                have hcz56_0 : wr.cell? ⟨gb125, 0, none⟩ = some (.int .i64 (wrap64 (1 + (wrap64 (Int.tmod (IntKind.u64.wrap (a0)) (IntKind.u64.wrap (ji43))))))) := (blk_cell BK125.out 0).trans (by first | rfl | (rw [← hji43]; rfl) )
                                have hcz56_1 : wr.cell? ⟨gb125, 1, none⟩ = some (.int .i64 (ji43)) := (blk_cell BK125.out 1).trans (by first | rfl | (rw [← hji43]; rfl) )
                                have hfz56_0 := blk_frozen BK125.out 0
                                have hfz56_1 := blk_frozen BK125.out 1
                                have p55 : 0 ≤ ((ji52) : Int) := of_decide_eq_true (by first | (with_reducible assumption) | assumption)
                                have q55 : ((ji52) : Int) < ((x16_3.length : Int) : Int) := of_decide_eq_true (by first | (with_reducible assumption) | assumption)
                                obtain ⟨go55, co55, eo55, gb55, gl55, cl55, HG55⟩ := Kd.R_form HO_16.out (by omega)
                                (first | cases eo55 | (injection eo55 with ea_ en_ ec_; (first | subst ea_ | (injection ea_ with ea_; subst ea_)); subst ec_; clear en_))
                                have GB55 := Aside0.mk gb55
                                have GG55 := Aside0.mk HG55
                                clear gb55 gl55 HG55
                                obtain ⟨hx55_0, hf55_0⟩ := Kd.R_celln false HO_16.out ((ji52) : Int) p55 q55
                                replace p55 := eq_true p55
                                replace q55 := eq_true q55
                                have HP57 := Kd.R_putg HO_16.out ((ji52) : Int) true
                                go_wp2_with (first | ((with_reducible refine gate_store (t := 4) (p := 106) rfl ?_); refine store_event (t := 4) (p := 106) (v := ?vo_w58) (w1 := (wr.setCell ⟨go55, ((ji52) : Int).toNat, none⟩ (.bool true))) ?hg ?ho ?hn ?hr ?_; (case ho => rfl); (case hg => rfl); (case hn => rfl); (case hr => first | (go_simp; done) | (go_simp; rfl)); intro w58 hw; have hg : wr.grownBy w58 (some go55) := (by rw [hw]; exact HP57.2); have hp_ : Kd.R Kd.bool 4 w58 w.heap.size (fun k_ => some k_ ≠ (.slice Ao37 x8_2.length co37 : Value).ownBlock ∧ some k_ ≠ (.slice Ao46 x14_2.length co46 : Value).ownBlock) (.slice (some ⟨go55, 0, none⟩) x16_3.length co55) y145 := (by rw [hw, Ny145.out]; exact HP57.1); clear HP57; have n0_ := Aside0.mk (Kd.R_after (v := (.slice (some ⟨go55, 0, none⟩) x16_3.length co55)) (v1 := (.slice (some ⟨go55, 0, none⟩) x16_3.length co55)) (ok := (fun k_ => some k_ ≠ (.slice Ao46 x14_2.length co46 : Value).ownBlock)) (by (with_reducible repeat (first | apply Kd.R_alloc | apply Kd.R_drewN | apply Kd.R_drew)); exact HO_8.out) hg (.inl rfl)); have n1_ := Aside0.mk (Kd.R_after (v := (.slice (some ⟨go55, 0, none⟩) x16_3.length co55)) (v1 := (.slice (some ⟨go55, 0, none⟩) x16_3.length co55)) (ok := (fun k_ => some k_ ≠ (.slice Ao37 x8_2.length co37 : Value).ownBlock)) (by (with_reducible repeat (first | apply Kd.R_alloc | apply Kd.R_drewN | apply Kd.R_drew)); exact HO_14.out) hg (.inl rfl)); have n2_ := Aside0.mk (hp_); have n3_ := Aside0.mk (blk_grown (g := gb125) (o := .cells #[.int .i64 (wrap64 (1 + (wrap64 (Int.tmod (IntKind.u64.wrap (a0)) (IntKind.u64.wrap (ji43)))))), .int .i64 (ji43)] 24 (0, 0)) (by (with_reducible repeat (first | refine blk_drewN ?_ _ | refine blk_drew ?_ | refine blk_alloc ?_ _)); exact BK125.out) hg (Kd.R_ne HO_16.out BK125.out (by decide))); have n4_ := Aside0.mk ((by rw [hw]; exact below_set (HB.out) GB55.out : Below w.heap.size w w58)); clear HO_8; clear HO_14; clear HO_16; clear BK125; clear HB; have HO_8 := n0_; have HO_14 := n1_; have HO_16 := n2_; have BK125 := n3_; have HB := n4_; clear n0_ n1_ n2_ n3_ n4_; clear hg hw hp_))
                                first | go_roundg k3 | (subst hji52; go_roundg k3) | (subst hji52; subst hji43; go_roundg k3)
                                case measure => have := HK1.out; have := HK2.out; have := HK3.out; omega
                                case rel => exact ⟨(y145), (wrap64 (x17_3 + 1)), (by first | rfl | (simp; done) | (simp [*]; done)), H', ⟨by have := HK1.out; have := HK2.out; have := HK3.out; omega⟩, ⟨by (try simp only [hl8_2]); (with_reducible repeat (first | apply Kd.R_alloc | apply Kd.R_drewN | apply Kd.R_drew)); exact HO_8.out⟩, ⟨by (try simp only [hl8_2]); (with_reducible repeat (first | apply Kd.R_alloc | apply Kd.R_drewN | apply Kd.R_drew)); exact HO_14.out⟩, ⟨by (try simp only [hl8_2]); (with_reducible repeat (first | apply Kd.R_alloc | apply Kd.R_drewN | apply Kd.R_drew)); exact HO_16.out⟩, ⟨by (try simp only [hl8_2]); (with_reducible repeat (first | refine blk_drewN ?_ _ | refine blk_drew ?_ | refine blk_alloc ?_ _)); exact BK125.out⟩, ⟨by repeat (first | (with_reducible first | exact HB.out | apply below_alloc | apply pw_below_drewN | apply below_drew1 | refine below_set ?_ GE125.out) | exact HB.out)⟩⟩
                              · rw [if_neg c54] at H
                                exact absurd H (by simp)
                            · rw [if_neg c53] at H
                              exact absurd H (by simp)
                          · rw [if_neg c51] at H
                            have c51b0 : (x15_2 == 0) = false := beq_eq_false_iff_ne.mpr c51
                            have c51b1 : (x15_2 != 0) = true := bne_iff_ne.mpr c51
                            by_cases c59 : 0 ≤ x17_3
                            · rw [if_pos c59] at H
                              have c59b0 : decide (0 ≤ x17_3) = true := decide_eq_true c59
                              clear c59
                              by_cases c60 : x17_3 < (x16_3.length : Int)
                              · rw [if_pos c60] at H
                                have c60b0 : decide (x17_3 < (x16_3.length : Int)) = true := decide_eq_true c60
                                clear c60
                                obtain ⟨y146, hy146⟩ : ∃ y_ : List Bool, y_ = (x16_3.set (x17_3 : Int).toNat true) := ⟨_, rfl⟩
                                replace H : (tithelaw21_SupplyMet.l3 k3 (wrap64 (Int.tmod (IntKind.u64.wrap (a2)) 200)) x8_2 t137 t138 x14_2 x15_2 y146 (wrap64 (x17_3 + 1)) (wrap64 (1 + (wrap64 (Int.tmod (IntKind.u64.wrap (a0)) (IntKind.u64.wrap (ji43)))))) (ji43)) = some r := by first | (rw [hy146]; with_reducible exact H) | (have H2_ := (Option.bind_some _ _).symm.trans H; rw [hy146]; with_reducible exact H2_) | (have H2_ := (Option.bind_some _ _).symm.trans H; with_reducible exact H2_) | with_reducible exact H | (rw [hy146]; exact H) | exact H
                                have Ny146 := Aside0.mk hy146
                                clear hy146
                                have H' := Aside0.mk H
                                clear H
                                have hcz62_0 : wr.cell? ⟨gb125, 0, none⟩ = some (.int .i64 (wrap64 (1 + (wrap64 (Int.tmod (IntKind.u64.wrap (a0)) (IntKind.u64.wrap (ji43))))))) := (blk_cell BK125.out 0).trans (by first | rfl | (rw [← hji43]; rfl) )
                                have hcz62_1 : wr.cell? ⟨gb125, 1, none⟩ = some (.int .i64 (ji43)) := (blk_cell BK125.out 1).trans (by first | rfl | (rw [← hji43]; rfl) )
                                have hfz62_0 := blk_frozen BK125.out 0
                                have hfz62_1 := blk_frozen BK125.out 1
                                have p61 : 0 ≤ (x17_3 : Int) := of_decide_eq_true (by first | (with_reducible assumption) | assumption)
                                have q61 : (x17_3 : Int) < ((x16_3.length : Int) : Int) := of_decide_eq_true (by first | (with_reducible assumption) | assumption)
                                obtain ⟨go61, co61, eo61, gb61, gl61, cl61, HG61⟩ := Kd.R_form HO_16.out (by omega)
                                (first | cases eo61 | (injection eo61 with ea_ en_ ec_; (first | subst ea_ | (injection ea_ with ea_; subst ea_)); subst ec_; clear en_))
                                have GB61 := Aside0.mk gb61
                                have GG61 := Aside0.mk HG61
                                clear gb61 gl61 HG61
                                obtain ⟨hx61_0, hf61_0⟩ := Kd.R_celln false HO_16.out (x17_3 : Int) p61 q61
                                replace p61 := eq_true p61
                                replace q61 := eq_true q61
                                have HP63 := Kd.R_putg HO_16.out (x17_3 : Int) true
                                go_wp2_with (first | ((with_reducible refine gate_store (t := 4) (p := 109) rfl ?_); refine store_event (t := 4) (p := 109) (v := ?vo_w64) (w1 := (wr.setCell ⟨go61, (x17_3 : Int).toNat, none⟩ (.bool true))) ?hg ?ho ?hn ?hr ?_; (case ho => rfl); (case hg => rfl); (case hn => rfl); (case hr => first | (go_simp; done) | (go_simp; rfl)); intro w64 hw; have hg : wr.grownBy w64 (some go61) := (by rw [hw]; exact HP63.2); have hp_ : Kd.R Kd.bool 4 w64 w.heap.size (fun k_ => some k_ ≠ (.slice Ao37 x8_2.length co37 : Value).ownBlock ∧ some k_ ≠ (.slice Ao46 x14_2.length co46 : Value).ownBlock) (.slice (some ⟨go61, 0, none⟩) x16_3.length co61) y146 := (by rw [hw, Ny146.out]; exact HP63.1); clear HP63; have n0_ := Aside0.mk (Kd.R_after (v := (.slice (some ⟨go61, 0, none⟩) x16_3.length co61)) (v1 := (.slice (some ⟨go61, 0, none⟩) x16_3.length co61)) (ok := (fun k_ => some k_ ≠ (.slice Ao46 x14_2.length co46 : Value).ownBlock)) (by (with_reducible repeat (first | apply Kd.R_alloc | apply Kd.R_drewN | apply Kd.R_drew)); exact HO_8.out) hg (.inl rfl)); have n1_ := Aside0.mk (Kd.R_after (v := (.slice (some ⟨go61, 0, none⟩) x16_3.length co61)) (v1 := (.slice (some ⟨go61, 0, none⟩) x16_3.length co61)) (ok := (fun k_ => some k_ ≠ (.slice Ao37 x8_2.length co37 : Value).ownBlock)) (by (with_reducible repeat (first | apply Kd.R_alloc | apply Kd.R_drewN | apply Kd.R_drew)); exact HO_14.out) hg (.inl rfl)); have n2_ := Aside0.mk (hp_); have n3_ := Aside0.mk (blk_grown (g := gb125) (o := .cells #[.int .i64 (wrap64 (1 + (wrap64 (Int.tmod (IntKind.u64.wrap (a0)) (IntKind.u64.wrap (ji43)))))), .int .i64 (ji43)] 24 (0, 0)) (by (with_reducible repeat (first | refine blk_drewN ?_ _ | refine blk_drew ?_ | refine blk_alloc ?_ _)); exact BK125.out) hg (Kd.R_ne HO_16.out BK125.out (by decide))); have n4_ := Aside0.mk ((by rw [hw]; exact below_set (HB.out) GB61.out : Below w.heap.size w w64)); clear HO_8; clear HO_14; clear HO_16; clear BK125; clear HB; have HO_8 := n0_; have HO_14 := n1_; have HO_16 := n2_; have BK125 := n3_; have HB := n4_; clear n0_ n1_ n2_ n3_ n4_; clear hg hw hp_))
                                first | go_roundg k3 | (subst hji43; go_roundg k3)
                                case measure => have := HK1.out; have := HK2.out; have := HK3.out; omega
                                case rel => exact ⟨(y146), (wrap64 (x17_3 + 1)), (by first | rfl | (simp; done) | (simp [*]; done)), H', ⟨by have := HK1.out; have := HK2.out; have := HK3.out; omega⟩, ⟨by (try simp only [hl8_2]); (with_reducible repeat (first | apply Kd.R_alloc | apply Kd.R_drewN | apply Kd.R_drew)); exact HO_8.out⟩, ⟨by (try simp only [hl8_2]); (with_reducible repeat (first | apply Kd.R_alloc | apply Kd.R_drewN | apply Kd.R_drew)); exact HO_14.out⟩, ⟨by (try simp only [hl8_2]); (with_reducible repeat (first | apply Kd.R_alloc | apply Kd.R_drewN | apply Kd.R_drew)); exact HO_16.out⟩, ⟨by (try simp only [hl8_2]); (with_reducible repeat (first | refine blk_drewN ?_ _ | refine blk_drew ?_ | refine blk_alloc ?_ _)); exact BK125.out⟩, ⟨by repeat (first | (with_reducible first | exact HB.out | apply below_alloc | apply pw_below_drewN | apply below_drew1 | refine below_set ?_ GE125.out) | exact HB.out)⟩⟩
                              · rw [if_neg c60] at H
                                exact absurd H (by simp)
                            · rw [if_neg c59] at H
                              exact absurd H (by simp)
                        · rw [if_neg c50] at H
                          have c50b0 : decide (x17_3 < (wrap64 (1 + (wrap64 (Int.tmod (IntKind.u64.wrap (a0)) (IntKind.u64.wrap (ji43))))))) = false := decide_eq_false c50
                          clear c50
                          by_cases c65 : x14_2.length + x16_3.length < 140737488355328
                          · rw [if_pos c65] at H
                            have LMc65 := Aside0.mk c65
                            clear c65
                            obtain ⟨y147, hy147⟩ : ∃ y_ : List Bool, y_ = (x14_2 ++ x16_3) := ⟨_, rfl⟩
                            replace H : (tithelaw21_SupplyMet.l2 k3 (wrap64 (Int.tmod (IntKind.u64.wrap (a2)) 200)) x8_2 t137 t138 y147 (wrap64 (x15_2 + 1)) (wrap64 (1 + (wrap64 (Int.tmod (IntKind.u64.wrap (a0)) (IntKind.u64.wrap (ji43)))))) (ji43)) = some r := by first | (rw [hy147]; with_reducible exact H) | (have H2_ := (Option.bind_some _ _).symm.trans H; rw [hy147]; with_reducible exact H2_) | (have H2_ := (Option.bind_some _ _).symm.trans H; with_reducible exact H2_) | with_reducible exact H | (rw [hy147]; exact H) | exact H
                            have Ny147 := Aside0.mk hy147
                            clear hy147
                            have H' := Aside0.mk H
                            clear H
                            have hcz66_0 : wr.cell? ⟨gb125, 0, none⟩ = some (.int .i64 (wrap64 (1 + (wrap64 (Int.tmod (IntKind.u64.wrap (a0)) (IntKind.u64.wrap (ji43))))))) := (blk_cell BK125.out 0).trans (by first | rfl | (rw [← hji43]; rfl) )
                            have hcz66_1 : wr.cell? ⟨gb125, 1, none⟩ = some (.int .i64 (ji43)) := (blk_cell BK125.out 1).trans (by first | rfl | (rw [← hji43]; rfl) )
                            have hfz66_0 := blk_frozen BK125.out 0
                            have hfz66_1 := blk_frozen BK125.out 1
                            obtain ⟨Ao68, co68, eo68⟩ := Kd.R_slice HO_16.out
                            subst eo68
                            go_wp2_with (first | ((with_reducible refine gate_builtin (b := .append) (xs := #[.tmp 110, .tmp 111]) rfl ?_); at_builtin; refine Kd.R_append_rows Kd.bool (w0 := w) w.heap.size rfl (.tmp 110) (.tmp 111) 25 4 (.bool false) 1 rfl Try.underlying25 info4 rfl (by decide) (by omega) (.slice Ao46 x14_2.length co46) x14_2 x16_3 _ _ _ (fun k_ => some k_ ≠ (.slice Ao37 x8_2.length co37 : Value).ownBlock ∧ some k_ ≠ (.slice Ao68 x16_3.length co68 : Value).ownBlock) (fun _ => False) rfl rfl ?aO ?aR (fun _ _ h => h) (fun _ h => h.elim) ?aF ?aB ?aS ?aL ?_; (case aR => repeat (first | exact (Kd.R_reads' HO_16.out).2.2 | (with_reducible refine Kd.C_alloc ?_ _) | (with_reducible refine Kd.C_drewN ?_ _) | (with_reducible refine Kd.C_drew ?_))); (case aB => exact (by repeat (first | (with_reducible first | exact HB.out | apply below_alloc | apply pw_below_drewN | apply below_drew1 | refine below_set ?_ GE125.out) | exact HB.out))); (case aF => exact (fun k_ hk => ⟨Kd.fresh' (Kd.R_lt (by (with_reducible repeat (first | apply Kd.R_alloc | apply Kd.R_drewN | apply Kd.R_drew)); exact HO_8.out)) k_ hk, Kd.fresh' (Kd.R_lt (by (with_reducible repeat (first | apply Kd.R_alloc | apply Kd.R_drewN | apply Kd.R_drew)); exact HO_16.out)) k_ hk⟩)); (case aO => exact (by (with_reducible repeat (first | apply Kd.R_alloc | apply Kd.R_drewN | apply Kd.R_drew)); exact HO_14.out)); (case aS => exact (below_size (by repeat (first | (with_reducible first | exact HB.out | apply below_alloc | apply pw_below_drewN | apply below_drew1 | refine below_set ?_ GE125.out) | exact HB.out)))); (case aL => have := LMc65.out; omega); intro v148 w67 ho hb hg hat; rw [← Ny147.out] at ho; have n0_ := Aside0.mk (Kd.R_after (ok := (fun k_ => some k_ ≠ (.slice Ao68 x16_3.length co68 : Value).ownBlock)) (by (with_reducible repeat (first | apply Kd.R_alloc | apply Kd.R_drewN | apply Kd.R_drew)); exact Kd.R_mono HO_8.out (fun _ hk => ⟨hk.2, hk.1⟩)) hg hat); have n1_ := Aside0.mk (Kd.R_after (ok := (fun k_ => some k_ ≠ (.slice Ao37 x8_2.length co37 : Value).ownBlock)) (by (with_reducible repeat (first | apply Kd.R_alloc | apply Kd.R_drewN | apply Kd.R_drew)); exact HO_16.out) hg hat); have n2_ := Aside0.mk (blk_grown (g := gb125) (o := .cells #[.int .i64 (wrap64 (1 + (wrap64 (Int.tmod (IntKind.u64.wrap (a0)) (IntKind.u64.wrap (ji43)))))), .int .i64 (ji43)] 24 (0, 0)) (by (with_reducible repeat (first | refine blk_drewN ?_ _ | refine blk_drew ?_ | refine blk_alloc ?_ _)); exact BK125.out) hg (Kd.R_ne HO_14.out BK125.out (by decide))); have n3_ := Aside0.mk (hb); have n4_ := Aside0.mk (ho); clear HO_8; clear HO_16; clear BK125; clear HB; clear HO_14; have HO_8 := n0_; have HO_16 := n1_; have BK125 := n2_; have HB := n3_; have HO149 := n4_; clear n0_ n1_ n2_ n3_ n4_; clear ho hb hg hat))
                            (try simp only [← hl8_2])
                            first | go_roundg k3 | (subst hji43; go_roundg k3)
                            case measure => have := HK1.out; have := HK2.out; have := HK3.out; omega
                            case rel => exact ⟨(x8_2), (y147), (wrap64 (x15_2 + 1)), (by first | rfl | (simp; done) | (simp [*]; done)), H', ⟨by have := HK1.out; have := HK2.out; have := HK3.out; omega⟩, ⟨by (try simp only [hl8_2]); (with_reducible repeat (first | apply Kd.R_alloc | apply Kd.R_drewN | apply Kd.R_drew)); exact Kd.R_mono HO_8.out (fun _ hk => hk.2)⟩, ⟨by (try simp only [hl8_2]); (with_reducible repeat (first | apply Kd.R_alloc | apply Kd.R_drewN | apply Kd.R_drew)); exact Kd.R_mono HO149.out (fun _ hk => hk.1)⟩, ⟨by (try simp only [hl8_2]); (with_reducible repeat (first | refine blk_drewN ?_ _ | refine blk_drew ?_ | refine blk_alloc ?_ _)); exact BK125.out⟩, ⟨by repeat (first | (with_reducible first | exact HB.out | apply below_alloc | apply pw_below_drewN | apply below_drew1 | refine below_set ?_ GE125.out) | exact HB.out)⟩⟩
                          · rw [if_neg c65] at H
                            exact absurd H (by simp)
                  · rw [if_neg c45] at H
                    exact absurd H (by simp)
                · rw [if_neg c44] at H
                  exact absurd H (by simp)
              · rw [if_neg c42] at H
                have c42b0 : decide ((x14_2.length : Int) < (wrap64 ((wrap64 (Int.tmod (IntKind.u64.wrap (a2)) 200)) + (wrap64 (1 + (wrap64 (Int.tmod (IntKind.u64.wrap (a1)) 40))))))) = false := decide_eq_false c42
                clear c42
                replace H := Option.bind_eq_some_iff.mp H
                obtain ⟨⟨t150, t151⟩, A690, H⟩ := H
                replace H : (if t138.isNone = true then (if t151.isNone = true then (if 0 ≤ (wrap64 (1 + (wrap64 (Int.tmod (IntKind.u64.wrap (a0)) (IntKind.u64.wrap (wrap64 (1 + (wrap64 (Int.tmod (IntKind.u64.wrap (a1)) 40))))))))) then (if (wrap64 (1 + (wrap64 (Int.tmod (IntKind.u64.wrap (a0)) (IntKind.u64.wrap (wrap64 (1 + (wrap64 (Int.tmod (IntKind.u64.wrap (a1)) 40))))))))) ≤ (wrap64 ((wrap64 (1 + (wrap64 (Int.tmod (IntKind.u64.wrap (a0)) (IntKind.u64.wrap (wrap64 (1 + (wrap64 (Int.tmod (IntKind.u64.wrap (a1)) 40))))))))) + (wrap64 (Int.tmod (IntKind.u64.wrap (a2)) 200)))) then (if (wrap64 ((wrap64 (1 + (wrap64 (Int.tmod (IntKind.u64.wrap (a0)) (IntKind.u64.wrap (wrap64 (1 + (wrap64 (Int.tmod (IntKind.u64.wrap (a1)) 40))))))))) + (wrap64 (Int.tmod (IntKind.u64.wrap (a2)) 200)))) ≤ (x8_2.length : Int) then ((tithelaw21_count.f k2 ((x8_2.take ((wrap64 ((wrap64 (1 + (wrap64 (Int.tmod (IntKind.u64.wrap (a0)) (IntKind.u64.wrap (wrap64 (1 + (wrap64 (Int.tmod (IntKind.u64.wrap (a1)) 40))))))))) + (wrap64 (Int.tmod (IntKind.u64.wrap (a2)) 200)))) : Int).toNat).drop ((wrap64 (1 + (wrap64 (Int.tmod (IntKind.u64.wrap (a0)) (IntKind.u64.wrap (wrap64 (1 + (wrap64 (Int.tmod (IntKind.u64.wrap (a1)) 40))))))))) : Int).toNat)).bind fun t158 => (if t158 = t137 then (if 0 ≤ (wrap64 ((wrap64 (1 + (wrap64 (Int.tmod (IntKind.u64.wrap (a1)) 40)))) - (wrap64 (1 + (wrap64 (Int.tmod (IntKind.u64.wrap (a0)) (IntKind.u64.wrap (wrap64 (1 + (wrap64 (Int.tmod (IntKind.u64.wrap (a1)) 40))))))))))) then (if (wrap64 ((wrap64 (1 + (wrap64 (Int.tmod (IntKind.u64.wrap (a1)) 40)))) - (wrap64 (1 + (wrap64 (Int.tmod (IntKind.u64.wrap (a0)) (IntKind.u64.wrap (wrap64 (1 + (wrap64 (Int.tmod (IntKind.u64.wrap (a1)) 40))))))))))) ≤ (wrap64 ((wrap64 ((wrap64 (1 + (wrap64 (Int.tmod (IntKind.u64.wrap (a1)) 40)))) - (wrap64 (1 + (wrap64 (Int.tmod (IntKind.u64.wrap (a0)) (IntKind.u64.wrap (wrap64 (1 + (wrap64 (Int.tmod (IntKind.u64.wrap (a1)) 40))))))))))) + (wrap64 (Int.tmod (IntKind.u64.wrap (a2)) 200)))) then (if (wrap64 ((wrap64 ((wrap64 (1 + (wrap64 (Int.tmod (IntKind.u64.wrap (a1)) 40)))) - (wrap64 (1 + (wrap64 (Int.tmod (IntKind.u64.wrap (a0)) (IntKind.u64.wrap (wrap64 (1 + (wrap64 (Int.tmod (IntKind.u64.wrap (a1)) 40))))))))))) + (wrap64 (Int.tmod (IntKind.u64.wrap (a2)) 200)))) ≤ (x14_2.length : Int) then ((tithelaw21_count.f k2 ((x14_2.take ((wrap64 ((wrap64 ((wrap64 (1 + (wrap64 (Int.tmod (IntKind.u64.wrap (a1)) 40)))) - (wrap64 (1 + (wrap64 (Int.tmod (IntKind.u64.wrap (a0)) (IntKind.u64.wrap (wrap64 (1 + (wrap64 (Int.tmod (IntKind.u64.wrap (a1)) 40))))))))))) + (wrap64 (Int.tmod (IntKind.u64.wrap (a2)) 200)))) : Int).toNat).drop ((wrap64 ((wrap64 (1 + (wrap64 (Int.tmod (IntKind.u64.wrap (a1)) 40)))) - (wrap64 (1 + (wrap64 (Int.tmod (IntKind.u64.wrap (a0)) (IntKind.u64.wrap (wrap64 (1 + (wrap64 (Int.tmod (IntKind.u64.wrap (a1)) 40))))))))))) : Int).toNat)).bind fun t163 => (if t163 = t150 then ((tithelaw21_sure.f).bind fun t164 => (some t164)) else (some false))) else (none)) else (none)) else (none)) else (some false))) else (none)) else (none)) else (none)) else (some false)) else (some false)) = some r := H
                have A69 := Aside0.mk A690
                clear A690
                rcases t138 with _ | q152
                · have H1 : (if t151.isNone = true then (if 0 ≤ (wrap64 (1 + (wrap64 (Int.tmod (IntKind.u64.wrap (a0)) (IntKind.u64.wrap (wrap64 (1 + (wrap64 (Int.tmod (IntKind.u64.wrap (a1)) 40))))))))) then (if (wrap64 (1 + (wrap64 (Int.tmod (IntKind.u64.wrap (a0)) (IntKind.u64.wrap (wrap64 (1 + (wrap64 (Int.tmod (IntKind.u64.wrap (a1)) 40))))))))) ≤ (wrap64 ((wrap64 (1 + (wrap64 (Int.tmod (IntKind.u64.wrap (a0)) (IntKind.u64.wrap (wrap64 (1 + (wrap64 (Int.tmod (IntKind.u64.wrap (a1)) 40))))))))) + (wrap64 (Int.tmod (IntKind.u64.wrap (a2)) 200)))) then (if (wrap64 ((wrap64 (1 + (wrap64 (Int.tmod (IntKind.u64.wrap (a0)) (IntKind.u64.wrap (wrap64 (1 + (wrap64 (Int.tmod (IntKind.u64.wrap (a1)) 40))))))))) + (wrap64 (Int.tmod (IntKind.u64.wrap (a2)) 200)))) ≤ (x8_2.length : Int) then ((tithelaw21_count.f k2 ((x8_2.take ((wrap64 ((wrap64 (1 + (wrap64 (Int.tmod (IntKind.u64.wrap (a0)) (IntKind.u64.wrap (wrap64 (1 + (wrap64 (Int.tmod (IntKind.u64.wrap (a1)) 40))))))))) + (wrap64 (Int.tmod (IntKind.u64.wrap (a2)) 200)))) : Int).toNat).drop ((wrap64 (1 + (wrap64 (Int.tmod (IntKind.u64.wrap (a0)) (IntKind.u64.wrap (wrap64 (1 + (wrap64 (Int.tmod (IntKind.u64.wrap (a1)) 40))))))))) : Int).toNat)).bind fun t158 => (if t158 = t137 then (if 0 ≤ (wrap64 ((wrap64 (1 + (wrap64 (Int.tmod (IntKind.u64.wrap (a1)) 40)))) - (wrap64 (1 + (wrap64 (Int.tmod (IntKind.u64.wrap (a0)) (IntKind.u64.wrap (wrap64 (1 + (wrap64 (Int.tmod (IntKind.u64.wrap (a1)) 40))))))))))) then (if (wrap64 ((wrap64 (1 + (wrap64 (Int.tmod (IntKind.u64.wrap (a1)) 40)))) - (wrap64 (1 + (wrap64 (Int.tmod (IntKind.u64.wrap (a0)) (IntKind.u64.wrap (wrap64 (1 + (wrap64 (Int.tmod (IntKind.u64.wrap (a1)) 40))))))))))) ≤ (wrap64 ((wrap64 ((wrap64 (1 + (wrap64 (Int.tmod (IntKind.u64.wrap (a1)) 40)))) - (wrap64 (1 + (wrap64 (Int.tmod (IntKind.u64.wrap (a0)) (IntKind.u64.wrap (wrap64 (1 + (wrap64 (Int.tmod (IntKind.u64.wrap (a1)) 40))))))))))) + (wrap64 (Int.tmod (IntKind.u64.wrap (a2)) 200)))) then (if (wrap64 ((wrap64 ((wrap64 (1 + (wrap64 (Int.tmod (IntKind.u64.wrap (a1)) 40)))) - (wrap64 (1 + (wrap64 (Int.tmod (IntKind.u64.wrap (a0)) (IntKind.u64.wrap (wrap64 (1 + (wrap64 (Int.tmod (IntKind.u64.wrap (a1)) 40))))))))))) + (wrap64 (Int.tmod (IntKind.u64.wrap (a2)) 200)))) ≤ (x14_2.length : Int) then ((tithelaw21_count.f k2 ((x14_2.take ((wrap64 ((wrap64 ((wrap64 (1 + (wrap64 (Int.tmod (IntKind.u64.wrap (a1)) 40)))) - (wrap64 (1 + (wrap64 (Int.tmod (IntKind.u64.wrap (a0)) (IntKind.u64.wrap (wrap64 (1 + (wrap64 (Int.tmod (IntKind.u64.wrap (a1)) 40))))))))))) + (wrap64 (Int.tmod (IntKind.u64.wrap (a2)) 200)))) : Int).toNat).drop ((wrap64 ((wrap64 (1 + (wrap64 (Int.tmod (IntKind.u64.wrap (a1)) 40)))) - (wrap64 (1 + (wrap64 (Int.tmod (IntKind.u64.wrap (a0)) (IntKind.u64.wrap (wrap64 (1 + (wrap64 (Int.tmod (IntKind.u64.wrap (a1)) 40))))))))))) : Int).toNat)).bind fun t163 => (if t163 = t150 then ((tithelaw21_sure.f).bind fun t164 => (some t164)) else (some false))) else (none)) else (none)) else (none)) else (some false))) else (none)) else (none)) else (none)) else (some false)) = some r := by rw [if_pos (show (none : Option Int).isNone = true by rfl)] at H; exact H
                  clear H
                  have H := H1
                  clear H1
                  try simp only [errW_none, errW_some]
                  rcases t151 with _ | q153
                  · have H1 : (if 0 ≤ (wrap64 (1 + (wrap64 (Int.tmod (IntKind.u64.wrap (a0)) (IntKind.u64.wrap (wrap64 (1 + (wrap64 (Int.tmod (IntKind.u64.wrap (a1)) 40))))))))) then (if (wrap64 (1 + (wrap64 (Int.tmod (IntKind.u64.wrap (a0)) (IntKind.u64.wrap (wrap64 (1 + (wrap64 (Int.tmod (IntKind.u64.wrap (a1)) 40))))))))) ≤ (wrap64 ((wrap64 (1 + (wrap64 (Int.tmod (IntKind.u64.wrap (a0)) (IntKind.u64.wrap (wrap64 (1 + (wrap64 (Int.tmod (IntKind.u64.wrap (a1)) 40))))))))) + (wrap64 (Int.tmod (IntKind.u64.wrap (a2)) 200)))) then (if (wrap64 ((wrap64 (1 + (wrap64 (Int.tmod (IntKind.u64.wrap (a0)) (IntKind.u64.wrap (wrap64 (1 + (wrap64 (Int.tmod (IntKind.u64.wrap (a1)) 40))))))))) + (wrap64 (Int.tmod (IntKind.u64.wrap (a2)) 200)))) ≤ (x8_2.length : Int) then ((tithelaw21_count.f k2 ((x8_2.take ((wrap64 ((wrap64 (1 + (wrap64 (Int.tmod (IntKind.u64.wrap (a0)) (IntKind.u64.wrap (wrap64 (1 + (wrap64 (Int.tmod (IntKind.u64.wrap (a1)) 40))))))))) + (wrap64 (Int.tmod (IntKind.u64.wrap (a2)) 200)))) : Int).toNat).drop ((wrap64 (1 + (wrap64 (Int.tmod (IntKind.u64.wrap (a0)) (IntKind.u64.wrap (wrap64 (1 + (wrap64 (Int.tmod (IntKind.u64.wrap (a1)) 40))))))))) : Int).toNat)).bind fun t158 => (if t158 = t137 then (if 0 ≤ (wrap64 ((wrap64 (1 + (wrap64 (Int.tmod (IntKind.u64.wrap (a1)) 40)))) - (wrap64 (1 + (wrap64 (Int.tmod (IntKind.u64.wrap (a0)) (IntKind.u64.wrap (wrap64 (1 + (wrap64 (Int.tmod (IntKind.u64.wrap (a1)) 40))))))))))) then (if (wrap64 ((wrap64 (1 + (wrap64 (Int.tmod (IntKind.u64.wrap (a1)) 40)))) - (wrap64 (1 + (wrap64 (Int.tmod (IntKind.u64.wrap (a0)) (IntKind.u64.wrap (wrap64 (1 + (wrap64 (Int.tmod (IntKind.u64.wrap (a1)) 40))))))))))) ≤ (wrap64 ((wrap64 ((wrap64 (1 + (wrap64 (Int.tmod (IntKind.u64.wrap (a1)) 40)))) - (wrap64 (1 + (wrap64 (Int.tmod (IntKind.u64.wrap (a0)) (IntKind.u64.wrap (wrap64 (1 + (wrap64 (Int.tmod (IntKind.u64.wrap (a1)) 40))))))))))) + (wrap64 (Int.tmod (IntKind.u64.wrap (a2)) 200)))) then (if (wrap64 ((wrap64 ((wrap64 (1 + (wrap64 (Int.tmod (IntKind.u64.wrap (a1)) 40)))) - (wrap64 (1 + (wrap64 (Int.tmod (IntKind.u64.wrap (a0)) (IntKind.u64.wrap (wrap64 (1 + (wrap64 (Int.tmod (IntKind.u64.wrap (a1)) 40))))))))))) + (wrap64 (Int.tmod (IntKind.u64.wrap (a2)) 200)))) ≤ (x14_2.length : Int) then ((tithelaw21_count.f k2 ((x14_2.take ((wrap64 ((wrap64 ((wrap64 (1 + (wrap64 (Int.tmod (IntKind.u64.wrap (a1)) 40)))) - (wrap64 (1 + (wrap64 (Int.tmod (IntKind.u64.wrap (a0)) (IntKind.u64.wrap (wrap64 (1 + (wrap64 (Int.tmod (IntKind.u64.wrap (a1)) 40))))))))))) + (wrap64 (Int.tmod (IntKind.u64.wrap (a2)) 200)))) : Int).toNat).drop ((wrap64 ((wrap64 (1 + (wrap64 (Int.tmod (IntKind.u64.wrap (a1)) 40)))) - (wrap64 (1 + (wrap64 (Int.tmod (IntKind.u64.wrap (a0)) (IntKind.u64.wrap (wrap64 (1 + (wrap64 (Int.tmod (IntKind.u64.wrap (a1)) 40))))))))))) : Int).toNat)).bind fun t163 => (if t163 = t150 then ((tithelaw21_sure.f).bind fun t164 => (some t164)) else (some false))) else (none)) else (none)) else (none)) else (some false))) else (none)) else (none)) else (none)) = some r := by rw [if_pos (show (none : Option Int).isNone = true by rfl)] at H; exact H
                    clear H
                    have H := H1
                    clear H1
                    try simp only [errW_none, errW_some]
                    obtain ⟨ji70, hji70⟩ : ∃ j_ : Int, (wrap64 (1 + (wrap64 (Int.tmod (IntKind.u64.wrap (a0)) (IntKind.u64.wrap (wrap64 (1 + (wrap64 (Int.tmod (IntKind.u64.wrap (a1)) 40))))))))) = j_ := ⟨_, rfl⟩
                    (try rw [hji70] at BK125)
                    (try rw [hji70] at BK125)
                    (try rw [hji70] at BK125)
                    (try rw [hji70] at BK125)
                    (try rw [hji70] at BK125)
                    (try rw [hji70] at BK125)
                    (try rw [hji70] at BK125)
                    (try rw [hji70] at BK125)
                    replace H : (if 0 ≤ (ji70) then (if (ji70) ≤ (wrap64 ((ji70) + (wrap64 (Int.tmod (IntKind.u64.wrap (a2)) 200)))) then (if (wrap64 ((ji70) + (wrap64 (Int.tmod (IntKind.u64.wrap (a2)) 200)))) ≤ (x8_2.length : Int) then ((tithelaw21_count.f k2 ((x8_2.take ((wrap64 ((ji70) + (wrap64 (Int.tmod (IntKind.u64.wrap (a2)) 200)))) : Int).toNat).drop ((ji70) : Int).toNat)).bind fun t158 => (if t158 = t137 then (if 0 ≤ (wrap64 ((wrap64 (1 + (wrap64 (Int.tmod (IntKind.u64.wrap (a1)) 40)))) - (ji70))) then (if (wrap64 ((wrap64 (1 + (wrap64 (Int.tmod (IntKind.u64.wrap (a1)) 40)))) - (ji70))) ≤ (wrap64 ((wrap64 ((wrap64 (1 + (wrap64 (Int.tmod (IntKind.u64.wrap (a1)) 40)))) - (ji70))) + (wrap64 (Int.tmod (IntKind.u64.wrap (a2)) 200)))) then (if (wrap64 ((wrap64 ((wrap64 (1 + (wrap64 (Int.tmod (IntKind.u64.wrap (a1)) 40)))) - (ji70))) + (wrap64 (Int.tmod (IntKind.u64.wrap (a2)) 200)))) ≤ (x14_2.length : Int) then ((tithelaw21_count.f k2 ((x14_2.take ((wrap64 ((wrap64 ((wrap64 (1 + (wrap64 (Int.tmod (IntKind.u64.wrap (a1)) 40)))) - (ji70))) + (wrap64 (Int.tmod (IntKind.u64.wrap (a2)) 200)))) : Int).toNat).drop ((wrap64 ((wrap64 (1 + (wrap64 (Int.tmod (IntKind.u64.wrap (a1)) 40)))) - (ji70))) : Int).toNat)).bind fun t163 => (if t163 = t150 then ((tithelaw21_sure.f).bind fun t164 => (some t164)) else (some false))) else (none)) else (none)) else (none)) else (some false))) else (none)) else (none)) else (none)) = some r := by first | (rw [hji70] at H; exact H) | (simp only [hji70] at H ⊢; exact H)
                    (try rw [hji70] at A69)
                    have hji70w : (IntKind.i64.wrap (1 + (wrap64 (Int.tmod (IntKind.u64.wrap (a0)) (IntKind.u64.wrap (wrap64 (1 + (wrap64 (Int.tmod (IntKind.u64.wrap (a1)) 40))))))))) = ji70 := (i64_w _).trans hji70
                    by_cases c71 : 0 ≤ (ji70)
                    · rw [if_pos c71] at H
                      have c71b0 := eq_true c71
                      have c71b1 : decide (0 ≤ (ji70)) = true := decide_eq_true c71
                      clear c71
                      by_cases c72 : (ji70) ≤ (wrap64 ((ji70) + (wrap64 (Int.tmod (IntKind.u64.wrap (a2)) 200))))
                      · rw [if_pos c72] at H
                        have c72b0 := eq_true c72
                        have c72b1 : decide ((ji70) ≤ (wrap64 ((ji70) + (wrap64 (Int.tmod (IntKind.u64.wrap (a2)) 200))))) = true := decide_eq_true c72
                        by_cases c73 : (wrap64 ((ji70) + (wrap64 (Int.tmod (IntKind.u64.wrap (a2)) 200)))) ≤ (x8_2.length : Int)
                        · rw [if_pos c73] at H
                          have c73b0 := eq_true c73
                          have c73b1 : decide ((wrap64 ((ji70) + (wrap64 (Int.tmod (IntKind.u64.wrap (a2)) 200)))) ≤ (x8_2.length : Int)) = true := decide_eq_true c73
                          obtain ⟨y154, hy154⟩ : ∃ y_ : List Bool, y_ = ((x8_2.take ((wrap64 ((ji70) + (wrap64 (Int.tmod (IntKind.u64.wrap (a2)) 200)))) : Int).toNat).drop ((ji70) : Int).toNat) := ⟨_, rfl⟩
                          replace H : ((tithelaw21_count.f k2 y154).bind fun t158 => (if t158 = t137 then (if 0 ≤ (wrap64 ((wrap64 (1 + (wrap64 (Int.tmod (IntKind.u64.wrap (a1)) 40)))) - (ji70))) then (if (wrap64 ((wrap64 (1 + (wrap64 (Int.tmod (IntKind.u64.wrap (a1)) 40)))) - (ji70))) ≤ (wrap64 ((wrap64 ((wrap64 (1 + (wrap64 (Int.tmod (IntKind.u64.wrap (a1)) 40)))) - (ji70))) + (wrap64 (Int.tmod (IntKind.u64.wrap (a2)) 200)))) then (if (wrap64 ((wrap64 ((wrap64 (1 + (wrap64 (Int.tmod (IntKind.u64.wrap (a1)) 40)))) - (ji70))) + (wrap64 (Int.tmod (IntKind.u64.wrap (a2)) 200)))) ≤ (x14_2.length : Int) then ((tithelaw21_count.f k2 ((x14_2.take ((wrap64 ((wrap64 ((wrap64 (1 + (wrap64 (Int.tmod (IntKind.u64.wrap (a1)) 40)))) - (ji70))) + (wrap64 (Int.tmod (IntKind.u64.wrap (a2)) 200)))) : Int).toNat).drop ((wrap64 ((wrap64 (1 + (wrap64 (Int.tmod (IntKind.u64.wrap (a1)) 40)))) - (ji70))) : Int).toNat)).bind fun t163 => (if t163 = t150 then ((tithelaw21_sure.f).bind fun t164 => (some t164)) else (some false))) else (none)) else (none)) else (none)) else (some false))) = some r := by first | (rw [hy154]; with_reducible exact H) | (have H2_ := (Option.bind_some _ _).symm.trans H; rw [hy154]; with_reducible exact H2_) | (have H2_ := (Option.bind_some _ _).symm.trans H; with_reducible exact H2_) | with_reducible exact H | (rw [hy154]; exact H) | exact H
                          have Ny154 := Aside0.mk hy154
                          clear hy154
                          replace H := Option.bind_eq_some_iff.mp H
                          obtain ⟨t158, A740, H⟩ := H
                          replace H : (if t158 = t137 then (if 0 ≤ (wrap64 ((wrap64 (1 + (wrap64 (Int.tmod (IntKind.u64.wrap (a1)) 40)))) - (ji70))) then (if (wrap64 ((wrap64 (1 + (wrap64 (Int.tmod (IntKind.u64.wrap (a1)) 40)))) - (ji70))) ≤ (wrap64 ((wrap64 ((wrap64 (1 + (wrap64 (Int.tmod (IntKind.u64.wrap (a1)) 40)))) - (ji70))) + (wrap64 (Int.tmod (IntKind.u64.wrap (a2)) 200)))) then (if (wrap64 ((wrap64 ((wrap64 (1 + (wrap64 (Int.tmod (IntKind.u64.wrap (a1)) 40)))) - (ji70))) + (wrap64 (Int.tmod (IntKind.u64.wrap (a2)) 200)))) ≤ (x14_2.length : Int) then ((tithelaw21_count.f k2 ((x14_2.take ((wrap64 ((wrap64 ((wrap64 (1 + (wrap64 (Int.tmod (IntKind.u64.wrap (a1)) 40)))) - (ji70))) + (wrap64 (Int.tmod (IntKind.u64.wrap (a2)) 200)))) : Int).toNat).drop ((wrap64 ((wrap64 (1 + (wrap64 (Int.tmod (IntKind.u64.wrap (a1)) 40)))) - (ji70))) : Int).toNat)).bind fun t163 => (if t163 = t150 then ((tithelaw21_sure.f).bind fun t164 => (some t164)) else (some false))) else (none)) else (none)) else (none)) else (some false)) = some r := H
                          have A74 := Aside0.mk A740
                          clear A740
                          by_cases c75 : t158 = t137
                          · rw [if_pos c75] at H
                            have c75b0 : (t158 == t137) = true := beq_iff_eq.mpr c75
                            have c75b1 : (t158 != t137) = false := bne_eq_false_iff_eq.mpr c75
                            clear c75
                            obtain ⟨ji76, hji76⟩ : ∃ j_ : Int, (wrap64 ((wrap64 (1 + (wrap64 (Int.tmod (IntKind.u64.wrap (a1)) 40)))) - (ji70))) = j_ := ⟨_, rfl⟩
                            (try rw [hji76] at BK125)
                            (try rw [hji76] at BK125)
                            (try rw [hji76] at BK125)
                            (try rw [hji76] at BK125)
                            (try rw [hji76] at BK125)
                            (try rw [hji76] at BK125)
                            (try rw [hji76] at BK125)
                            (try rw [hji76] at BK125)
                            replace H : (if 0 ≤ (ji76) then (if (ji76) ≤ (wrap64 ((ji76) + (wrap64 (Int.tmod (IntKind.u64.wrap (a2)) 200)))) then (if (wrap64 ((ji76) + (wrap64 (Int.tmod (IntKind.u64.wrap (a2)) 200)))) ≤ (x14_2.length : Int) then ((tithelaw21_count.f k2 ((x14_2.take ((wrap64 ((ji76) + (wrap64 (Int.tmod (IntKind.u64.wrap (a2)) 200)))) : Int).toNat).drop ((ji76) : Int).toNat)).bind fun t163 => (if t163 = t150 then ((tithelaw21_sure.f).bind fun t164 => (some t164)) else (some false))) else (none)) else (none)) else (none)) = some r := by first | (rw [hji76] at H; exact H) | (simp only [hji76] at H ⊢; exact H)
                            (try rw [hji76] at A69)
                            (try rw [hji76] at A74)
                            have hji76w : (IntKind.i64.wrap ((wrap64 (1 + (wrap64 (Int.tmod (IntKind.u64.wrap (a1)) 40)))) - (ji70))) = ji76 := (i64_w _).trans hji76
                            by_cases c77 : 0 ≤ (ji76)
                            · rw [if_pos c77] at H
                              have c77b0 := eq_true c77
                              have c77b1 : decide (0 ≤ (ji76)) = true := decide_eq_true c77
                              clear c77
                              by_cases c78 : (ji76) ≤ (wrap64 ((ji76) + (wrap64 (Int.tmod (IntKind.u64.wrap (a2)) 200))))
                              · rw [if_pos c78] at H
                                have c78b0 := eq_true c78
                                have c78b1 : decide ((ji76) ≤ (wrap64 ((ji76) + (wrap64 (Int.tmod (IntKind.u64.wrap (a2)) 200))))) = true := decide_eq_true c78
                                by_cases c79 : (wrap64 ((ji76) + (wrap64 (Int.tmod (IntKind.u64.wrap (a2)) 200)))) ≤ (x14_2.length : Int)
                                · rw [if_pos c79] at H
                                  have c79b0 := eq_true c79
                                  have c79b1 : decide ((wrap64 ((ji76) + (wrap64 (Int.tmod (IntKind.u64.wrap (a2)) 200)))) ≤ (x14_2.length : Int)) = true := decide_eq_true c79
                                  obtain ⟨y159, hy159⟩ : ∃ y_ : List Bool, y_ = ((x14_2.take ((wrap64 ((ji76) + (wrap64 (Int.tmod (IntKind.u64.wrap (a2)) 200)))) : Int).toNat).drop ((ji76) : Int).toNat) := ⟨_, rfl⟩
                                  replace H : ((tithelaw21_count.f k2 y159).bind fun t163 => (if t163 = t150 then ((tithelaw21_sure.f).bind fun t164 => (some t164)) else (some false))) = some r := by first | (rw [hy159]; with_reducible exact H) | (have H2_ := (Option.bind_some _ _).symm.trans H; rw [hy159]; with_reducible exact H2_) | (have H2_ := (Option.bind_some _ _).symm.trans H; with_reducible exact H2_) | with_reducible exact H | (rw [hy159]; exact H) | exact H
                                  have Ny159 := Aside0.mk hy159
                                  clear hy159
                                  replace H := Option.bind_eq_some_iff.mp H
                                  obtain ⟨t163, A800, H⟩ := H
                                  replace H : (if t163 = t150 then ((tithelaw21_sure.f).bind fun t164 => (some t164)) else (some false)) = some r := H
                                  have A80 := Aside0.mk A800
                                  clear A800
                                  by_cases c81 : t163 = t150
                                  · rw [if_pos c81] at H
                                    have c81b0 : (t163 == t150) = true := beq_iff_eq.mpr c81
                                    have c81b1 : (t163 != t150) = false := bne_eq_false_iff_eq.mpr c81
                                    clear c81
                                    replace H := Option.bind_eq_some_iff.mp H
                                    obtain ⟨t164, A820, H⟩ := H
                                    replace H : (some t164) = some r := H
                                    have A82 := Aside0.mk A820
                                    clear A820
                                    obtain rfl := Option.some.inj H
                                    obtain ⟨Ao83, co83, eo83⟩ := Kd.R_slice HO_14.out
                                    subst eo83
                                    have hcz84_0 : wr.cell? ⟨gb125, 0, none⟩ = some (.int .i64 (ji70)) := (blk_cell BK125.out 0).trans (by first | rfl | (rw [← hji70]; rfl) )
                                    have hcz84_1 : wr.cell? ⟨gb125, 1, none⟩ = some (.int .i64 (wrap64 (1 + (wrap64 (Int.tmod (IntKind.u64.wrap (a1)) 40))))) := (blk_cell BK125.out 1).trans (by rfl)
                                    have hfz84_0 := blk_frozen BK125.out 0
                                    have hfz84_1 := blk_frozen BK125.out 1
                                    go_wp2_with (first | ((with_reducible refine gate_callee (f := 7) rfl ?_); refine goesL_ (some 116) rfl rfl Try.func7 (by kernel_rfl) rfl #[.agg #[.int .i64 (ji70), .int .i64 (wrap64 (1 + (wrap64 (Int.tmod (IntKind.u64.wrap (a1)) 40))))], .int .i64 (wrap64 (Int.tmod (IntKind.u64.wrap (a2)) 200))] rfl (by (try simp only [List.map_toArray, List.map_cons, List.map_nil]); first | done | (simp only [hji70]; rfl) | rfl | (simp only [List.length_drop, List.length_take]; rfl)) ?_; (with_reducible refine (supply_Most.calls (ji70) (wrap64 (1 + (wrap64 (Int.tmod (IntKind.u64.wrap (a1)) 40)))) (wrap64 (Int.tmod (IntKind.u64.wrap (a2)) 200)) t150 none _ A69.out).mono ?_); rintro e w85 ⟨rfl, hb⟩; refine ⟨_, rfl, ?_⟩; have n0_ := Aside0.mk (Kd.R_below (by (with_reducible repeat (first | apply Kd.R_alloc | apply Kd.R_drewN | apply Kd.R_drew)); exact HO_8.out) hb); have n1_ := Aside0.mk (Kd.R_below (by (with_reducible repeat (first | apply Kd.R_alloc | apply Kd.R_drewN | apply Kd.R_drew)); exact HO_14.out) hb); have n2_ := Aside0.mk (blk_below (g := gb125) (o := .cells #[.int .i64 (ji70), .int .i64 (wrap64 (1 + (wrap64 (Int.tmod (IntKind.u64.wrap (a1)) 40))))] 24 (0, 0)) (by (with_reducible repeat (first | refine blk_drewN ?_ _ | refine blk_drew ?_ | refine blk_alloc ?_ _)); exact BK125.out) hb); have n3_ := Aside0.mk (below_step (by repeat (first | (with_reducible first | exact HB.out | apply below_alloc | apply pw_below_drewN | apply below_drew1 | refine below_set ?_ GE125.out) | exact HB.out)) hb); clear HO_8; clear HO_14; clear BK125; clear HB; have HO_8 := n0_; have HO_14 := n1_; have BK125 := n2_; have HB := n3_; clear n0_ n1_ n2_ n3_; (try clear hb); (try clear hb2); (try clear hk); (try clear hi); (try simp only [errW_none, errW_some]); have hcz86_0 : w85.cell? ⟨gb125, 0, none⟩ = some (.int .i64 (ji70)) := (blk_cell BK125.out 0).trans (by first | rfl | (rw [← hji70]; rfl) | (rw [← hji76]; rfl) | (simp only [← hji70, ← hji76]) ); have hcz86_1 : w85.cell? ⟨gb125, 1, none⟩ = some (.int .i64 (wrap64 (1 + (wrap64 (Int.tmod (IntKind.u64.wrap (a1)) 40))))) := (blk_cell BK125.out 1).trans (by first | rfl | (rw [← hji70]; rfl) | (rw [← hji76]; rfl) | (simp only [← hji70, ← hji76]) ); have hfz86_0 := blk_frozen BK125.out 0; have hfz86_1 := blk_frozen BK125.out 1; have q87 : ((wrap64 ((ji70) + (wrap64 (Int.tmod (IntKind.u64.wrap (a2)) 200)))) : Int) ≤ ((x8_2.length : Int) : Int) := of_decide_eq_true (by first | (with_reducible assumption) | assumption); obtain ⟨i087, hi087, _, hsz87, _⟩ := info_parts info4; have hroom87 : x8_2.length ≤ co37 := (Kd.R_reads' HO_8.out).2.1; have hC87 : Kd.C Kd.bool _ Ao37 x8_2.length x8_2 := (Kd.R_reads' HO_8.out).2.2; have ql87 : ((ji70) : Int) ≤ ((wrap64 ((ji70) + (wrap64 (Int.tmod (IntKind.u64.wrap (a2)) 200)))) : Int) := of_decide_eq_true (by first | (with_reducible assumption) | assumption); have q087 : (0 : Int) ≤ ((ji70) : Int) := of_decide_eq_true (by first | (with_reducible assumption) | assumption); have hcut87 := cut_mid (P := Try.prog) 25 4 .i64 .i64 Try.underlying25 hi087 1 hsz87 Ao37 x8_2.length co37 (ji70) (wrap64 ((ji70) + (wrap64 (Int.tmod (IntKind.u64.wrap (a2)) 200)))) q087 ql87 q87 hroom87; have hr87 := Kd.C_mid (lo := ((ji70) : Int).toNat) (hi := ((wrap64 ((ji70) + (wrap64 (Int.tmod (IntKind.u64.wrap (a2)) 200)))) : Int).toNat) (c := co37) hC87 (by omega) (by omega) hroom87; obtain ⟨A87, hA87⟩ : ∃ A1, A1 = (if co37 = ((ji70) : Int).toNat then Ao37 else (Ao37 : Option Addr).map (·.add (((ji70) : Int).toNat * 1))) := ⟨_, rfl⟩; obtain ⟨c87, hc87⟩ : ∃ c1, c1 = co37 - ((ji70) : Int).toNat := ⟨_, rfl⟩; have hy87 : y154.length = ((wrap64 ((ji70) + (wrap64 (Int.tmod (IntKind.u64.wrap (a2)) 200)))) : Int).toNat - ((ji70) : Int).toNat := (by rw [Ny154.out, List.length_drop, List.length_take] <;> omega); rw [show ((x8_2).take ((wrap64 ((ji70) + (wrap64 (Int.tmod (IntKind.u64.wrap (a2)) 200)))) : Int).toNat).drop ((ji70) : Int).toNat = y154 from Ny154.out.symm] at hr87; replace hr87 : Kd.C Kd.bool _ A87 y154.length y154 := (by rw [hA87]; exact hr87); rw [← hy87, ← hA87, ← hc87] at hcut87; have HR157 := Aside0.mk hr87; have HC157 := Aside0.mk (show y154.length ≤ c87 from by rw [hy87, hc87]; exact Nat.sub_le_sub_right (Nat.le_trans (by omega) hroom87) _); clear hr87 hC87 hroom87 hi087 hsz87 hc87; have KY87 := Aside0.mk hy87; have KA87 := Aside0.mk hA87; clear hy87 hA87; have KL87 := Aside0.mk (show ((wrap64 ((ji70) + (wrap64 (Int.tmod (IntKind.u64.wrap (a2)) 200)))) : Int).toNat ≤ x8_2.length from by omega); have KM87 := Aside0.mk (show ((ji70) : Int).toNat ≤ ((wrap64 ((ji70) + (wrap64 (Int.tmod (IntKind.u64.wrap (a2)) 200)))) : Int).toNat from by omega); replace q87 := eq_true q87) | (go_at_call 8; (with_reducible refine (tithelaw21_count.calls k2 _ _ y154 t158 _ ?side1 ?side2 A74.out).mono ?_); (case side1 => repeat (first | exact (by repeat (first | (with_reducible exact HR157.out) | (with_reducible refine Kd.C_alloc ?_ _) | (with_reducible refine Kd.C_drewN ?_ _) | (with_reducible refine Kd.C_drew ?_) | exact HR157.out)) | (with_reducible refine Kd.C_alloc ?_ _) | (with_reducible refine Kd.C_drewN ?_ _) | (with_reducible refine Kd.C_drew ?_))); (case side2 => exact HC157.out); rintro e w' ⟨rfl, ⟨nd, rfl⟩⟩; have q88 : ((wrap64 ((ji76) + (wrap64 (Int.tmod (IntKind.u64.wrap (a2)) 200)))) : Int) ≤ ((x14_2.length : Int) : Int) := of_decide_eq_true (by first | (with_reducible assumption) | assumption); obtain ⟨i088, hi088, _, hsz88, _⟩ := info_parts info4; have hroom88 : x14_2.length ≤ co83 := (Kd.R_reads' HO_14.out).2.1; have hC88 : Kd.C Kd.bool _ Ao83 x14_2.length x14_2 := (Kd.R_reads' HO_14.out).2.2; have ql88 : ((ji76) : Int) ≤ ((wrap64 ((ji76) + (wrap64 (Int.tmod (IntKind.u64.wrap (a2)) 200)))) : Int) := of_decide_eq_true (by first | (with_reducible assumption) | assumption); have q088 : (0 : Int) ≤ ((ji76) : Int) := of_decide_eq_true (by first | (with_reducible assumption) | assumption); have hcut88 := cut_mid (P := Try.prog) 25 4 .i64 .i64 Try.underlying25 hi088 1 hsz88 Ao83 x14_2.length co83 (ji76) (wrap64 ((ji76) + (wrap64 (Int.tmod (IntKind.u64.wrap (a2)) 200)))) q088 ql88 q88 hroom88; have hr88 := Kd.C_mid (lo := ((ji76) : Int).toNat) (hi := ((wrap64 ((ji76) + (wrap64 (Int.tmod (IntKind.u64.wrap (a2)) 200)))) : Int).toNat) (c := co83) hC88 (by omega) (by omega) hroom88; obtain ⟨A88, hA88⟩ : ∃ A1, A1 = (if co83 = ((ji76) : Int).toNat then Ao83 else (Ao83 : Option Addr).map (·.add (((ji76) : Int).toNat * 1))) := ⟨_, rfl⟩; obtain ⟨c88, hc88⟩ : ∃ c1, c1 = co83 - ((ji76) : Int).toNat := ⟨_, rfl⟩; have hy88 : y159.length = ((wrap64 ((ji76) + (wrap64 (Int.tmod (IntKind.u64.wrap (a2)) 200)))) : Int).toNat - ((ji76) : Int).toNat := (by rw [Ny159.out, List.length_drop, List.length_take] <;> omega); rw [show ((x14_2).take ((wrap64 ((ji76) + (wrap64 (Int.tmod (IntKind.u64.wrap (a2)) 200)))) : Int).toNat).drop ((ji76) : Int).toNat = y159 from Ny159.out.symm] at hr88; replace hr88 : Kd.C Kd.bool _ A88 y159.length y159 := (by rw [hA88]; exact hr88); rw [← hy88, ← hA88, ← hc88] at hcut88; have HR162 := Aside0.mk hr88; have HC162 := Aside0.mk (show y159.length ≤ c88 from by rw [hy88, hc88]; exact Nat.sub_le_sub_right (Nat.le_trans (by omega) hroom88) _); clear hr88 hC88 hroom88 hi088 hsz88 hc88; have KY88 := Aside0.mk hy88; have KA88 := Aside0.mk hA88; clear hy88 hA88; have KL88 := Aside0.mk (show ((wrap64 ((ji76) + (wrap64 (Int.tmod (IntKind.u64.wrap (a2)) 200)))) : Int).toNat ≤ x14_2.length from by omega); have KM88 := Aside0.mk (show ((ji76) : Int).toNat ≤ ((wrap64 ((ji76) + (wrap64 (Int.tmod (IntKind.u64.wrap (a2)) 200)))) : Int).toNat from by omega); replace q88 := eq_true q88) | (go_at_call 8; (with_reducible refine (tithelaw21_count.calls k2 _ _ y159 t163 _ ?side1 ?side2 A80.out).mono ?_); (case side1 => repeat (first | exact (by repeat (first | (with_reducible exact HR162.out) | (with_reducible refine Kd.C_alloc ?_ _) | (with_reducible refine Kd.C_drewN ?_ _) | (with_reducible refine Kd.C_drew ?_) | exact HR162.out)) | (with_reducible refine Kd.C_alloc ?_ _) | (with_reducible refine Kd.C_drewN ?_ _) | (with_reducible refine Kd.C_drew ?_))); (case side2 => exact HC162.out); rintro e w' ⟨rfl, ⟨nd, rfl⟩⟩) | (go_at_call 9; (with_reducible refine (tithelaw21_sure.calls  t164 _ A82.out).mono ?_); rintro e w89 ⟨rfl, hb⟩; have n0_ := Aside0.mk (Kd.R_below (by (with_reducible repeat (first | apply Kd.R_alloc | apply Kd.R_drewN | apply Kd.R_drew)); exact HO_8.out) hb); have n1_ := Aside0.mk (Kd.R_below (by (with_reducible repeat (first | apply Kd.R_alloc | apply Kd.R_drewN | apply Kd.R_drew)); exact HO_14.out) hb); have n2_ := Aside0.mk (blk_below (g := gb125) (o := .cells #[.int .i64 (ji70), .int .i64 (wrap64 (1 + (wrap64 (Int.tmod (IntKind.u64.wrap (a1)) 40))))] 24 (0, 0)) (by (with_reducible repeat (first | refine blk_drewN ?_ _ | refine blk_drew ?_ | refine blk_alloc ?_ _)); exact BK125.out) hb); have n3_ := Aside0.mk (Kd.C_below (by repeat (first | (with_reducible exact HR157.out) | (with_reducible refine Kd.C_alloc ?_ _) | (with_reducible refine Kd.C_drewN ?_ _) | (with_reducible refine Kd.C_drew ?_) | exact HR157.out)) hb); have n4_ := Aside0.mk (Kd.C_below (by repeat (first | (with_reducible exact HR162.out) | (with_reducible refine Kd.C_alloc ?_ _) | (with_reducible refine Kd.C_drewN ?_ _) | (with_reducible refine Kd.C_drew ?_) | exact HR162.out)) hb); have n5_ := Aside0.mk (below_step (by repeat (first | (with_reducible first | exact HB.out | apply below_alloc | apply pw_below_drewN | apply below_drew1 | refine below_set ?_ GE125.out) | exact HB.out)) hb); clear HO_8; clear HO_14; clear BK125; clear HR157; clear HR162; clear HB; have HO_8 := n0_; have HO_14 := n1_; have BK125 := n2_; have HR157 := n3_; have HR162 := n4_; have HB := n5_; clear n0_ n1_ n2_ n3_ n4_ n5_; (try clear hb); (try clear hb2); (try clear hk); (try clear hi)))
                                    go_ret
                                    exact ⟨by first | rfl | (simp [errW_none, errW_some] <;> rfl) | (simp only [← hji70, ← hji76]; first | rfl | (simp [errW_none, errW_some] <;> rfl)) | (simp [*, errW_none, errW_some] <;> rfl), by repeat (first | (with_reducible first | exact HB.out | apply below_alloc | apply pw_below_drewN | apply below_drew1 | refine below_set ?_ GE125.out) | exact HB.out)⟩
                                  · rw [if_neg c81] at H
                                    have c81b0 : (t163 == t150) = false := beq_eq_false_iff_ne.mpr c81
                                    have c81b1 : (t163 != t150) = true := bne_iff_ne.mpr c81
                                    obtain rfl := Option.some.inj H
                                    obtain ⟨Ao90, co90, eo90⟩ := Kd.R_slice HO_14.out
                                    subst eo90
                                    have hcz91_0 : wr.cell? ⟨gb125, 0, none⟩ = some (.int .i64 (ji70)) := (blk_cell BK125.out 0).trans (by first | rfl | (rw [← hji70]; rfl) )
                                    have hcz91_1 : wr.cell? ⟨gb125, 1, none⟩ = some (.int .i64 (wrap64 (1 + (wrap64 (Int.tmod (IntKind.u64.wrap (a1)) 40))))) := (blk_cell BK125.out 1).trans (by rfl)
                                    have hfz91_0 := blk_frozen BK125.out 0
                                    have hfz91_1 := blk_frozen BK125.out 1
                                    go_wp2_with (first | ((with_reducible refine gate_callee (f := 7) rfl ?_); refine goesL_ (some 116) rfl rfl Try.func7 (by kernel_rfl) rfl #[.agg #[.int .i64 (ji70), .int .i64 (wrap64 (1 + (wrap64 (Int.tmod (IntKind.u64.wrap (a1)) 40))))], .int .i64 (wrap64 (Int.tmod (IntKind.u64.wrap (a2)) 200))] rfl (by (try simp only [List.map_toArray, List.map_cons, List.map_nil]); first | done | (simp only [hji70]; rfl) | rfl | (simp only [List.length_drop, List.length_take]; rfl)) ?_; (with_reducible refine (supply_Most.calls (ji70) (wrap64 (1 + (wrap64 (Int.tmod (IntKind.u64.wrap (a1)) 40)))) (wrap64 (Int.tmod (IntKind.u64.wrap (a2)) 200)) t150 none _ A69.out).mono ?_); rintro e w92 ⟨rfl, hb⟩; refine ⟨_, rfl, ?_⟩; have n0_ := Aside0.mk (Kd.R_below (by (with_reducible repeat (first | apply Kd.R_alloc | apply Kd.R_drewN | apply Kd.R_drew)); exact HO_8.out) hb); have n1_ := Aside0.mk (Kd.R_below (by (with_reducible repeat (first | apply Kd.R_alloc | apply Kd.R_drewN | apply Kd.R_drew)); exact HO_14.out) hb); have n2_ := Aside0.mk (blk_below (g := gb125) (o := .cells #[.int .i64 (ji70), .int .i64 (wrap64 (1 + (wrap64 (Int.tmod (IntKind.u64.wrap (a1)) 40))))] 24 (0, 0)) (by (with_reducible repeat (first | refine blk_drewN ?_ _ | refine blk_drew ?_ | refine blk_alloc ?_ _)); exact BK125.out) hb); have n3_ := Aside0.mk (below_step (by repeat (first | (with_reducible first | exact HB.out | apply below_alloc | apply pw_below_drewN | apply below_drew1 | refine below_set ?_ GE125.out) | exact HB.out)) hb); clear HO_8; clear HO_14; clear BK125; clear HB; have HO_8 := n0_; have HO_14 := n1_; have BK125 := n2_; have HB := n3_; clear n0_ n1_ n2_ n3_; (try clear hb); (try clear hb2); (try clear hk); (try clear hi); (try simp only [errW_none, errW_some]); have hcz93_0 : w92.cell? ⟨gb125, 0, none⟩ = some (.int .i64 (ji70)) := (blk_cell BK125.out 0).trans (by first | rfl | (rw [← hji70]; rfl) | (rw [← hji76]; rfl) | (simp only [← hji70, ← hji76]) ); have hcz93_1 : w92.cell? ⟨gb125, 1, none⟩ = some (.int .i64 (wrap64 (1 + (wrap64 (Int.tmod (IntKind.u64.wrap (a1)) 40))))) := (blk_cell BK125.out 1).trans (by first | rfl | (rw [← hji70]; rfl) | (rw [← hji76]; rfl) | (simp only [← hji70, ← hji76]) ); have hfz93_0 := blk_frozen BK125.out 0; have hfz93_1 := blk_frozen BK125.out 1; have q94 : ((wrap64 ((ji70) + (wrap64 (Int.tmod (IntKind.u64.wrap (a2)) 200)))) : Int) ≤ ((x8_2.length : Int) : Int) := of_decide_eq_true (by first | (with_reducible assumption) | assumption); obtain ⟨i094, hi094, _, hsz94, _⟩ := info_parts info4; have hroom94 : x8_2.length ≤ co37 := (Kd.R_reads' HO_8.out).2.1; have hC94 : Kd.C Kd.bool _ Ao37 x8_2.length x8_2 := (Kd.R_reads' HO_8.out).2.2; have ql94 : ((ji70) : Int) ≤ ((wrap64 ((ji70) + (wrap64 (Int.tmod (IntKind.u64.wrap (a2)) 200)))) : Int) := of_decide_eq_true (by first | (with_reducible assumption) | assumption); have q094 : (0 : Int) ≤ ((ji70) : Int) := of_decide_eq_true (by first | (with_reducible assumption) | assumption); have hcut94 := cut_mid (P := Try.prog) 25 4 .i64 .i64 Try.underlying25 hi094 1 hsz94 Ao37 x8_2.length co37 (ji70) (wrap64 ((ji70) + (wrap64 (Int.tmod (IntKind.u64.wrap (a2)) 200)))) q094 ql94 q94 hroom94; have hr94 := Kd.C_mid (lo := ((ji70) : Int).toNat) (hi := ((wrap64 ((ji70) + (wrap64 (Int.tmod (IntKind.u64.wrap (a2)) 200)))) : Int).toNat) (c := co37) hC94 (by omega) (by omega) hroom94; obtain ⟨A94, hA94⟩ : ∃ A1, A1 = (if co37 = ((ji70) : Int).toNat then Ao37 else (Ao37 : Option Addr).map (·.add (((ji70) : Int).toNat * 1))) := ⟨_, rfl⟩; obtain ⟨c94, hc94⟩ : ∃ c1, c1 = co37 - ((ji70) : Int).toNat := ⟨_, rfl⟩; have hy94 : y154.length = ((wrap64 ((ji70) + (wrap64 (Int.tmod (IntKind.u64.wrap (a2)) 200)))) : Int).toNat - ((ji70) : Int).toNat := (by rw [Ny154.out, List.length_drop, List.length_take] <;> omega); rw [show ((x8_2).take ((wrap64 ((ji70) + (wrap64 (Int.tmod (IntKind.u64.wrap (a2)) 200)))) : Int).toNat).drop ((ji70) : Int).toNat = y154 from Ny154.out.symm] at hr94; replace hr94 : Kd.C Kd.bool _ A94 y154.length y154 := (by rw [hA94]; exact hr94); rw [← hy94, ← hA94, ← hc94] at hcut94; have HR157 := Aside0.mk hr94; have HC157 := Aside0.mk (show y154.length ≤ c94 from by rw [hy94, hc94]; exact Nat.sub_le_sub_right (Nat.le_trans (by omega) hroom94) _); clear hr94 hC94 hroom94 hi094 hsz94 hc94; have KY94 := Aside0.mk hy94; have KA94 := Aside0.mk hA94; clear hy94 hA94; have KL94 := Aside0.mk (show ((wrap64 ((ji70) + (wrap64 (Int.tmod (IntKind.u64.wrap (a2)) 200)))) : Int).toNat ≤ x8_2.length from by omega); have KM94 := Aside0.mk (show ((ji70) : Int).toNat ≤ ((wrap64 ((ji70) + (wrap64 (Int.tmod (IntKind.u64.wrap (a2)) 200)))) : Int).toNat from by omega); replace q94 := eq_true q94) | (go_at_call 8; (with_reducible refine (tithelaw21_count.calls k2 _ _ y154 t158 _ ?side1 ?side2 A74.out).mono ?_); (case side1 => repeat (first | exact (by repeat (first | (with_reducible exact HR157.out) | (with_reducible refine Kd.C_alloc ?_ _) | (with_reducible refine Kd.C_drewN ?_ _) | (with_reducible refine Kd.C_drew ?_) | exact HR157.out)) | (with_reducible refine Kd.C_alloc ?_ _) | (with_reducible refine Kd.C_drewN ?_ _) | (with_reducible refine Kd.C_drew ?_))); (case side2 => exact HC157.out); rintro e w' ⟨rfl, ⟨nd, rfl⟩⟩; have q95 : ((wrap64 ((ji76) + (wrap64 (Int.tmod (IntKind.u64.wrap (a2)) 200)))) : Int) ≤ ((x14_2.length : Int) : Int) := of_decide_eq_true (by first | (with_reducible assumption) | assumption); obtain ⟨i095, hi095, _, hsz95, _⟩ := info_parts info4; have hroom95 : x14_2.length ≤ co90 := (Kd.R_reads' HO_14.out).2.1; have hC95 : Kd.C Kd.bool _ Ao90 x14_2.length x14_2 := (Kd.R_reads' HO_14.out).2.2; have ql95 : ((ji76) : Int) ≤ ((wrap64 ((ji76) + (wrap64 (Int.tmod (IntKind.u64.wrap (a2)) 200)))) : Int) := of_decide_eq_true (by first | (with_reducible assumption) | assumption); have q095 : (0 : Int) ≤ ((ji76) : Int) := of_decide_eq_true (by first | (with_reducible assumption) | assumption); have hcut95 := cut_mid (P := Try.prog) 25 4 .i64 .i64 Try.underlying25 hi095 1 hsz95 Ao90 x14_2.length co90 (ji76) (wrap64 ((ji76) + (wrap64 (Int.tmod (IntKind.u64.wrap (a2)) 200)))) q095 ql95 q95 hroom95; have hr95 := Kd.C_mid (lo := ((ji76) : Int).toNat) (hi := ((wrap64 ((ji76) + (wrap64 (Int.tmod (IntKind.u64.wrap (a2)) 200)))) : Int).toNat) (c := co90) hC95 (by omega) (by omega) hroom95; obtain ⟨A95, hA95⟩ : ∃ A1, A1 = (if co90 = ((ji76) : Int).toNat then Ao90 else (Ao90 : Option Addr).map (·.add (((ji76) : Int).toNat * 1))) := ⟨_, rfl⟩; obtain ⟨c95, hc95⟩ : ∃ c1, c1 = co90 - ((ji76) : Int).toNat := ⟨_, rfl⟩; have hy95 : y159.length = ((wrap64 ((ji76) + (wrap64 (Int.tmod (IntKind.u64.wrap (a2)) 200)))) : Int).toNat - ((ji76) : Int).toNat := (by rw [Ny159.out, List.length_drop, List.length_take] <;> omega); rw [show ((x14_2).take ((wrap64 ((ji76) + (wrap64 (Int.tmod (IntKind.u64.wrap (a2)) 200)))) : Int).toNat).drop ((ji76) : Int).toNat = y159 from Ny159.out.symm] at hr95; replace hr95 : Kd.C Kd.bool _ A95 y159.length y159 := (by rw [hA95]; exact hr95); rw [← hy95, ← hA95, ← hc95] at hcut95; have HR162 := Aside0.mk hr95; have HC162 := Aside0.mk (show y159.length ≤ c95 from by rw [hy95, hc95]; exact Nat.sub_le_sub_right (Nat.le_trans (by omega) hroom95) _); clear hr95 hC95 hroom95 hi095 hsz95 hc95; have KY95 := Aside0.mk hy95; have KA95 := Aside0.mk hA95; clear hy95 hA95; have KL95 := Aside0.mk (show ((wrap64 ((ji76) + (wrap64 (Int.tmod (IntKind.u64.wrap (a2)) 200)))) : Int).toNat ≤ x14_2.length from by omega); have KM95 := Aside0.mk (show ((ji76) : Int).toNat ≤ ((wrap64 ((ji76) + (wrap64 (Int.tmod (IntKind.u64.wrap (a2)) 200)))) : Int).toNat from by omega); replace q95 := eq_true q95) | (go_at_call 8; (with_reducible refine (tithelaw21_count.calls k2 _ _ y159 t163 _ ?side1 ?side2 A80.out).mono ?_); (case side1 => repeat (first | exact (by repeat (first | (with_reducible exact HR162.out) | (with_reducible refine Kd.C_alloc ?_ _) | (with_reducible refine Kd.C_drewN ?_ _) | (with_reducible refine Kd.C_drew ?_) | exact HR162.out)) | (with_reducible refine Kd.C_alloc ?_ _) | (with_reducible refine Kd.C_drewN ?_ _) | (with_reducible refine Kd.C_drew ?_))); (case side2 => exact HC162.out); rintro e w' ⟨rfl, ⟨nd, rfl⟩⟩))
                                    go_ret
                                    exact ⟨by first | rfl | (simp [errW_none, errW_some] <;> rfl) | (simp only [← hji70, ← hji76]; first | rfl | (simp [errW_none, errW_some] <;> rfl)) | (simp [*, errW_none, errW_some] <;> rfl), by repeat (first | (with_reducible first | exact HB.out | apply below_alloc | apply pw_below_drewN | apply below_drew1 | refine below_set ?_ GE125.out) | exact HB.out)⟩
                                · rw [if_neg c79] at H
                                  exact absurd H (by simp)
                              · rw [if_neg c78] at H
                                exact absurd H (by simp)
                            · rw [if_neg c77] at H
                              exact absurd H (by simp)
                          · rw [if_neg c75] at H
                            have c75b0 : (t158 == t137) = false := beq_eq_false_iff_ne.mpr c75
                            have c75b1 : (t158 != t137) = true := bne_iff_ne.mpr c75
                            obtain rfl := Option.some.inj H
                            obtain ⟨Ao96, co96, eo96⟩ := Kd.R_slice HO_14.out
                            subst eo96
                            have hcz97_0 : wr.cell? ⟨gb125, 0, none⟩ = some (.int .i64 (ji70)) := (blk_cell BK125.out 0).trans (by first | rfl | (rw [← hji70]; rfl) )
                            have hcz97_1 : wr.cell? ⟨gb125, 1, none⟩ = some (.int .i64 (wrap64 (1 + (wrap64 (Int.tmod (IntKind.u64.wrap (a1)) 40))))) := (blk_cell BK125.out 1).trans (by rfl)
                            have hfz97_0 := blk_frozen BK125.out 0
                            have hfz97_1 := blk_frozen BK125.out 1
                            go_wp2_with (first | ((with_reducible refine gate_callee (f := 7) rfl ?_); refine goesL_ (some 116) rfl rfl Try.func7 (by kernel_rfl) rfl #[.agg #[.int .i64 (ji70), .int .i64 (wrap64 (1 + (wrap64 (Int.tmod (IntKind.u64.wrap (a1)) 40))))], .int .i64 (wrap64 (Int.tmod (IntKind.u64.wrap (a2)) 200))] rfl (by (try simp only [List.map_toArray, List.map_cons, List.map_nil]); first | done | (simp only [hji70]; rfl) | rfl | (simp only [List.length_drop, List.length_take]; rfl)) ?_; (with_reducible refine (supply_Most.calls (ji70) (wrap64 (1 + (wrap64 (Int.tmod (IntKind.u64.wrap (a1)) 40)))) (wrap64 (Int.tmod (IntKind.u64.wrap (a2)) 200)) t150 none _ A69.out).mono ?_); rintro e w98 ⟨rfl, hb⟩; refine ⟨_, rfl, ?_⟩; have n0_ := Aside0.mk (Kd.R_below (by (with_reducible repeat (first | apply Kd.R_alloc | apply Kd.R_drewN | apply Kd.R_drew)); exact HO_8.out) hb); have n1_ := Aside0.mk (Kd.R_below (by (with_reducible repeat (first | apply Kd.R_alloc | apply Kd.R_drewN | apply Kd.R_drew)); exact HO_14.out) hb); have n2_ := Aside0.mk (blk_below (g := gb125) (o := .cells #[.int .i64 (ji70), .int .i64 (wrap64 (1 + (wrap64 (Int.tmod (IntKind.u64.wrap (a1)) 40))))] 24 (0, 0)) (by (with_reducible repeat (first | refine blk_drewN ?_ _ | refine blk_drew ?_ | refine blk_alloc ?_ _)); exact BK125.out) hb); have n3_ := Aside0.mk (below_step (by repeat (first | (with_reducible first | exact HB.out | apply below_alloc | apply pw_below_drewN | apply below_drew1 | refine below_set ?_ GE125.out) | exact HB.out)) hb); clear HO_8; clear HO_14; clear BK125; clear HB; have HO_8 := n0_; have HO_14 := n1_; have BK125 := n2_; have HB := n3_; clear n0_ n1_ n2_ n3_; (try clear hb); (try clear hb2); (try clear hk); (try clear hi); (try simp only [errW_none, errW_some]); have hcz99_0 : w98.cell? ⟨gb125, 0, none⟩ = some (.int .i64 (ji70)) := (blk_cell BK125.out 0).trans (by first | rfl | (rw [← hji70]; rfl) ); have hcz99_1 : w98.cell? ⟨gb125, 1, none⟩ = some (.int .i64 (wrap64 (1 + (wrap64 (Int.tmod (IntKind.u64.wrap (a1)) 40))))) := (blk_cell BK125.out 1).trans (by first | rfl | (rw [← hji70]; rfl) ); have hfz99_0 := blk_frozen BK125.out 0; have hfz99_1 := blk_frozen BK125.out 1; have q100 : ((wrap64 ((ji70) + (wrap64 (Int.tmod (IntKind.u64.wrap (a2)) 200)))) : Int) ≤ ((x8_2.length : Int) : Int) := of_decide_eq_true (by first | (with_reducible assumption) | assumption); obtain ⟨i0100, hi0100, _, hsz100, _⟩ := info_parts info4; have hroom100 : x8_2.length ≤ co37 := (Kd.R_reads' HO_8.out).2.1; have hC100 : Kd.C Kd.bool _ Ao37 x8_2.length x8_2 := (Kd.R_reads' HO_8.out).2.2; have ql100 : ((ji70) : Int) ≤ ((wrap64 ((ji70) + (wrap64 (Int.tmod (IntKind.u64.wrap (a2)) 200)))) : Int) := of_decide_eq_true (by first | (with_reducible assumption) | assumption); have q0100 : (0 : Int) ≤ ((ji70) : Int) := of_decide_eq_true (by first | (with_reducible assumption) | assumption); have hcut100 := cut_mid (P := Try.prog) 25 4 .i64 .i64 Try.underlying25 hi0100 1 hsz100 Ao37 x8_2.length co37 (ji70) (wrap64 ((ji70) + (wrap64 (Int.tmod (IntKind.u64.wrap (a2)) 200)))) q0100 ql100 q100 hroom100; have hr100 := Kd.C_mid (lo := ((ji70) : Int).toNat) (hi := ((wrap64 ((ji70) + (wrap64 (Int.tmod (IntKind.u64.wrap (a2)) 200)))) : Int).toNat) (c := co37) hC100 (by omega) (by omega) hroom100; obtain ⟨A100, hA100⟩ : ∃ A1, A1 = (if co37 = ((ji70) : Int).toNat then Ao37 else (Ao37 : Option Addr).map (·.add (((ji70) : Int).toNat * 1))) := ⟨_, rfl⟩; obtain ⟨c100, hc100⟩ : ∃ c1, c1 = co37 - ((ji70) : Int).toNat := ⟨_, rfl⟩; have hy100 : y154.length = ((wrap64 ((ji70) + (wrap64 (Int.tmod (IntKind.u64.wrap (a2)) 200)))) : Int).toNat - ((ji70) : Int).toNat := (by rw [Ny154.out, List.length_drop, List.length_take] <;> omega); rw [show ((x8_2).take ((wrap64 ((ji70) + (wrap64 (Int.tmod (IntKind.u64.wrap (a2)) 200)))) : Int).toNat).drop ((ji70) : Int).toNat = y154 from Ny154.out.symm] at hr100; replace hr100 : Kd.C Kd.bool _ A100 y154.length y154 := (by rw [hA100]; exact hr100); rw [← hy100, ← hA100, ← hc100] at hcut100; have HR157 := Aside0.mk hr100; have HC157 := Aside0.mk (show y154.length ≤ c100 from by rw [hy100, hc100]; exact Nat.sub_le_sub_right (Nat.le_trans (by omega) hroom100) _); clear hr100 hC100 hroom100 hi0100 hsz100 hc100; have KY100 := Aside0.mk hy100; have KA100 := Aside0.mk hA100; clear hy100 hA100; have KL100 := Aside0.mk (show ((wrap64 ((ji70) + (wrap64 (Int.tmod (IntKind.u64.wrap (a2)) 200)))) : Int).toNat ≤ x8_2.length from by omega); have KM100 := Aside0.mk (show ((ji70) : Int).toNat ≤ ((wrap64 ((ji70) + (wrap64 (Int.tmod (IntKind.u64.wrap (a2)) 200)))) : Int).toNat from by omega); replace q100 := eq_true q100) | (go_at_call 8; (with_reducible refine (tithelaw21_count.calls k2 _ _ y154 t158 _ ?side1 ?side2 A74.out).mono ?_); (case side1 => repeat (first | exact (by repeat (first | (with_reducible exact HR157.out) | (with_reducible refine Kd.C_alloc ?_ _) | (with_reducible refine Kd.C_drewN ?_ _) | (with_reducible refine Kd.C_drew ?_) | exact HR157.out)) | (with_reducible refine Kd.C_alloc ?_ _) | (with_reducible refine Kd.C_drewN ?_ _) | (with_reducible refine Kd.C_drew ?_))); (case side2 => exact HC157.out); rintro e w' ⟨rfl, ⟨nd, rfl⟩⟩))
                            go_ret
                            exact ⟨by first | rfl | (simp [errW_none, errW_some] <;> rfl) | (simp only [← hji70]; first | rfl | (simp [errW_none, errW_some] <;> rfl)) | (simp [*, errW_none, errW_some] <;> rfl), by repeat (first | (with_reducible first | exact HB.out | apply below_alloc | apply pw_below_drewN | apply below_drew1 | refine below_set ?_ GE125.out) | exact HB.out)⟩
                        · rw [if_neg c73] at H
                          exact absurd H (by simp)
                      · rw [if_neg c72] at H
                        exact absurd H (by simp)
                    · rw [if_neg c71] at H
                      exact absurd H (by simp)
                  · have H1 : (some false) = some r := by rw [if_neg (show ¬ (some q153).isNone = true by simp)] at H; exact H
                    clear H
                    have H := H1
                    clear H1
                    try simp only [errW_none, errW_some]
                    obtain rfl := Option.some.inj H
                    obtain ⟨Ao101, co101, eo101⟩ := Kd.R_slice HO_14.out
                    subst eo101
                    have hcz102_0 : wr.cell? ⟨gb125, 0, none⟩ = some (.int .i64 (wrap64 (1 + (wrap64 (Int.tmod (IntKind.u64.wrap (a0)) (IntKind.u64.wrap (wrap64 (1 + (wrap64 (Int.tmod (IntKind.u64.wrap (a1)) 40)))))))))) := (blk_cell BK125.out 0).trans (by rfl)
                    have hcz102_1 : wr.cell? ⟨gb125, 1, none⟩ = some (.int .i64 (wrap64 (1 + (wrap64 (Int.tmod (IntKind.u64.wrap (a1)) 40))))) := (blk_cell BK125.out 1).trans (by rfl)
                    have hfz102_0 := blk_frozen BK125.out 0
                    have hfz102_1 := blk_frozen BK125.out 1
                    go_wp2_with (first | ((with_reducible refine gate_callee (f := 7) rfl ?_); refine goesL_ (some 116) rfl rfl Try.func7 (by kernel_rfl) rfl #[.agg #[.int .i64 (wrap64 (1 + (wrap64 (Int.tmod (IntKind.u64.wrap (a0)) (IntKind.u64.wrap (wrap64 (1 + (wrap64 (Int.tmod (IntKind.u64.wrap (a1)) 40))))))))), .int .i64 (wrap64 (1 + (wrap64 (Int.tmod (IntKind.u64.wrap (a1)) 40))))], .int .i64 (wrap64 (Int.tmod (IntKind.u64.wrap (a2)) 200))] rfl (by (try simp only [List.map_toArray, List.map_cons, List.map_nil]); first | done | rfl | (simp only [List.length_drop, List.length_take]; rfl)) ?_; (with_reducible refine (supply_Most.calls (wrap64 (1 + (wrap64 (Int.tmod (IntKind.u64.wrap (a0)) (IntKind.u64.wrap (wrap64 (1 + (wrap64 (Int.tmod (IntKind.u64.wrap (a1)) 40))))))))) (wrap64 (1 + (wrap64 (Int.tmod (IntKind.u64.wrap (a1)) 40)))) (wrap64 (Int.tmod (IntKind.u64.wrap (a2)) 200)) t150 (some q153) _ A69.out).mono ?_); rintro e w103 ⟨rfl, hb⟩; refine ⟨_, rfl, ?_⟩; have n0_ := Aside0.mk (Kd.R_below (by (with_reducible repeat (first | apply Kd.R_alloc | apply Kd.R_drewN | apply Kd.R_drew)); exact HO_8.out) hb); have n1_ := Aside0.mk (Kd.R_below (by (with_reducible repeat (first | apply Kd.R_alloc | apply Kd.R_drewN | apply Kd.R_drew)); exact HO_14.out) hb); have n2_ := Aside0.mk (blk_below (g := gb125) (o := .cells #[.int .i64 (wrap64 (1 + (wrap64 (Int.tmod (IntKind.u64.wrap (a0)) (IntKind.u64.wrap (wrap64 (1 + (wrap64 (Int.tmod (IntKind.u64.wrap (a1)) 40))))))))), .int .i64 (wrap64 (1 + (wrap64 (Int.tmod (IntKind.u64.wrap (a1)) 40))))] 24 (0, 0)) (by (with_reducible repeat (first | refine blk_drewN ?_ _ | refine blk_drew ?_ | refine blk_alloc ?_ _)); exact BK125.out) hb); have n3_ := Aside0.mk (below_step (by repeat (first | (with_reducible first | exact HB.out | apply below_alloc | apply pw_below_drewN | apply below_drew1 | refine below_set ?_ GE125.out) | exact HB.out)) hb); clear HO_8; clear HO_14; clear BK125; clear HB; have HO_8 := n0_; have HO_14 := n1_; have BK125 := n2_; have HB := n3_; clear n0_ n1_ n2_ n3_; (try clear hb); (try clear hb2); (try clear hk); (try clear hi); (try simp only [errW_none, errW_some])))
                    go_ret
                    exact ⟨by first | rfl | (simp [errW_none, errW_some] <;> rfl) | (simp [*, errW_none, errW_some] <;> rfl), by repeat (first | (with_reducible first | exact HB.out | apply below_alloc | apply pw_below_drewN | apply below_drew1 | refine below_set ?_ GE125.out) | exact HB.out)⟩
                · have H1 : (some false) = some r := by rw [if_neg (show ¬ (some q152).isNone = true by simp)] at H; exact H
                  clear H
                  have H := H1
                  clear H1
                  try simp only [errW_none, errW_some]
                  obtain rfl := Option.some.inj H
                  obtain ⟨Ao104, co104, eo104⟩ := Kd.R_slice HO_14.out
                  subst eo104
                  have hcz105_0 : wr.cell? ⟨gb125, 0, none⟩ = some (.int .i64 (wrap64 (1 + (wrap64 (Int.tmod (IntKind.u64.wrap (a0)) (IntKind.u64.wrap (wrap64 (1 + (wrap64 (Int.tmod (IntKind.u64.wrap (a1)) 40)))))))))) := (blk_cell BK125.out 0).trans (by rfl)
                  have hcz105_1 : wr.cell? ⟨gb125, 1, none⟩ = some (.int .i64 (wrap64 (1 + (wrap64 (Int.tmod (IntKind.u64.wrap (a1)) 40))))) := (blk_cell BK125.out 1).trans (by rfl)
                  have hfz105_0 := blk_frozen BK125.out 0
                  have hfz105_1 := blk_frozen BK125.out 1
                  go_wp2_with (first | ((with_reducible refine gate_callee (f := 7) rfl ?_); refine goesL_ (some 116) rfl rfl Try.func7 (by kernel_rfl) rfl #[.agg #[.int .i64 (wrap64 (1 + (wrap64 (Int.tmod (IntKind.u64.wrap (a0)) (IntKind.u64.wrap (wrap64 (1 + (wrap64 (Int.tmod (IntKind.u64.wrap (a1)) 40))))))))), .int .i64 (wrap64 (1 + (wrap64 (Int.tmod (IntKind.u64.wrap (a1)) 40))))], .int .i64 (wrap64 (Int.tmod (IntKind.u64.wrap (a2)) 200))] rfl (by (try simp only [List.map_toArray, List.map_cons, List.map_nil]); first | done | rfl | (simp only [List.length_drop, List.length_take]; rfl)) ?_; (with_reducible refine (supply_Most.calls (wrap64 (1 + (wrap64 (Int.tmod (IntKind.u64.wrap (a0)) (IntKind.u64.wrap (wrap64 (1 + (wrap64 (Int.tmod (IntKind.u64.wrap (a1)) 40))))))))) (wrap64 (1 + (wrap64 (Int.tmod (IntKind.u64.wrap (a1)) 40)))) (wrap64 (Int.tmod (IntKind.u64.wrap (a2)) 200)) t150 t151 _ A69.out).mono ?_); rintro e w106 ⟨rfl, hb⟩; refine ⟨_, rfl, ?_⟩; have n0_ := Aside0.mk (Kd.R_below (by (with_reducible repeat (first | apply Kd.R_alloc | apply Kd.R_drewN | apply Kd.R_drew)); exact HO_8.out) hb); have n1_ := Aside0.mk (Kd.R_below (by (with_reducible repeat (first | apply Kd.R_alloc | apply Kd.R_drewN | apply Kd.R_drew)); exact HO_14.out) hb); have n2_ := Aside0.mk (blk_below (g := gb125) (o := .cells #[.int .i64 (wrap64 (1 + (wrap64 (Int.tmod (IntKind.u64.wrap (a0)) (IntKind.u64.wrap (wrap64 (1 + (wrap64 (Int.tmod (IntKind.u64.wrap (a1)) 40))))))))), .int .i64 (wrap64 (1 + (wrap64 (Int.tmod (IntKind.u64.wrap (a1)) 40))))] 24 (0, 0)) (by (with_reducible repeat (first | refine blk_drewN ?_ _ | refine blk_drew ?_ | refine blk_alloc ?_ _)); exact BK125.out) hb); have n3_ := Aside0.mk (below_step (by repeat (first | (with_reducible first | exact HB.out | apply below_alloc | apply pw_below_drewN | apply below_drew1 | refine below_set ?_ GE125.out) | exact HB.out)) hb); clear HO_8; clear HO_14; clear BK125; clear HB; have HO_8 := n0_; have HO_14 := n1_; have BK125 := n2_; have HB := n3_; clear n0_ n1_ n2_ n3_; (try clear hb); (try clear hb2); (try clear hk); (try clear hi); (try simp only [errW_none, errW_some])))
                  go_ret
                  exact ⟨by first | rfl | (simp [errW_none, errW_some] <;> rfl) | (simp [*, errW_none, errW_some] <;> rfl), by repeat (first | (with_reducible first | exact HB.out | apply below_alloc | apply pw_below_drewN | apply below_drew1 | refine below_set ?_ GE125.out) | exact HB.out)⟩

/-- THE ONE PURE STATEMENT of tithelaw21_SupplyMet: yours. -/
def tithelaw21_SupplyMet.Pure : Prop := ∀ (a0 : Int) (a1 : Int) (a2 : Int), (Lit.int .i64 a0).wf = true → (Lit.int .i64 a1).wf = true → (Lit.int .i64 a2).wf = true → ∃ k, tithelaw21_SupplyMet.f k a0 a1 a2 = some true
theorem tithelaw21_SupplyMet.walk (P : tithelaw21_SupplyMet.Pure) (a0 : Int) (a1 : Int) (a2 : Int) (w : World) (w0 : (Lit.int .i64 a0).wf = true) (w1 : (Lit.int .i64 a1).wf = true) (w2 : (Lit.int .i64 a2).wf = true) :
    Calls Try.prog 3 #[.int .i64 a0, .int .i64 a1, .int .i64 a2] w fun e w' => e = .returned (.bool true) ∧ Below w.heap.size w w' := by
  obtain ⟨k, h⟩ := P a0 a1 a2 w0 w1 w2
  refine (tithelaw21_SupplyMet.calls k a0 a1 a2 true w h).mono ?_
  rintro e w' ⟨rfl, hd⟩
  exact ⟨rfl, hd⟩

end Go.Proofs.Ytaoicceakgipgaa.X
