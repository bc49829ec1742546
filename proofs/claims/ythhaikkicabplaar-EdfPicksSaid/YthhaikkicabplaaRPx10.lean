/- Proved here: what the machine does at calls of the functions that the laws reach is what plain functions of the same names say, or a row of the given statement out of that. No conditions. Written by a program of this session over the printer of the kit. -/
import Derived.Test.YthhaikkicabplaaRPx0
namespace Go.Proofs.YthhaikkicabplaaR.P
open Go.RowKit Go.Proofs.YthhaikkicabplaaRW.PrintWords Go.Proofs.YthhaikkicabplaaRW.PrintLast Go.Proofs.YthhaikkicabplaaRW.PrintMore
attribute [local go_sem] max2_int min2_int max_two min_two max_three min_three max_four min_four   -- for this text's walks alone
set_option linter.unusedVariables false
set_option linter.unusedSimpArgs false

/-! ### titheref10_ahead: function 40 -/
def titheref10_ahead.f (l0 : List (S60)) (a1 : Int) (a2 : Int) : Option (Bool) := if 0 ≤ a1 then (if a1 < (l0.length : Int) then (if 0 ≤ a2 then (if a2 < (l0.length : Int) then (if ((rd_T60 l0 a1).f2) = ((rd_T60 l0 a2).f2) then (if ((rd_T60 l0 a1).f0) = ((rd_T60 l0 a2).f0) then (some (decide (a1 < a2))) else (some (decide (((rd_T60 l0 a1).f0) < ((rd_T60 l0 a2).f0))))) else (some (decide (((rd_T60 l0 a1).f2) < ((rd_T60 l0 a2).f2))))) else (none)) else (none)) else (none)) else (none)
def titheref10_ahead.T1 : Bool × List (List Nat × List Nat) := (true, [([], []), ([], []), ([0, 1], [0, 1]), ([2], [2]), ([], []), ([], []), ([4, 5], [4, 5]), ([6], [6]), ([], []), ([], []), ([8, 3, 0, 1, 2, 3, 8, 9], [3, 8]), ([9, 7, 10, 0, 1, 2, 3, 4, 5, 6, 7, 8, 9, 10], [7, 9])])
def titheref10_ahead.B1 : List Nat := [0, 0, 3, 7, 0, 0, 48, 112, 0, 0, 783, 2047]
theorem titheref10_ahead.tab1 : rtab .any (opsOf Try.f40 1) = titheref10_ahead.T1 := by kernel_rfl
theorem titheref10_ahead.bits1 : waitsOk titheref10_ahead.T1.2 titheref10_ahead.B1 = true := by kernel_rfl
set_option maxHeartbeats 8000000 in
set_option maxRecDepth 100000 in
theorem titheref10_ahead.calls (A0 : Option Addr) (c0 : Nat) (l0 : List (S60)) (a1 : Int) (a2 : Int) (r : Bool) (w : World) (hr0 : Kd.C k60 w A0 l0.length l0) (hc0 : l0.length ≤ c0) (h : titheref10_ahead.f l0 a1 a2 = some r) :
  Calls Try.prog 40 #[.slice A0 l0.length c0, .int .i64 a1, .int .i64 a2] w fun e w' => e = .returned (.bool r) ∧ Below w.heap.size w w' := by
 have hu60 := Try.underlying60
 have HR0 := Aside0.mk hr0
 have HC0 := Aside0.mk hc0
 clear hr0 hc0
 have HB := Aside0.mk (Below.refl w.heap.size w)
 have H : (if 0 ≤ a1 then (if a1 < (l0.length : Int) then (if 0 ≤ a2 then (if a2 < (l0.length : Int) then (if ((rd_T60 l0 a1).f2) = ((rd_T60 l0 a2).f2) then (if ((rd_T60 l0 a1).f0) = ((rd_T60 l0 a2).f0) then (some (decide (a1 < a2))) else (some (decide (((rd_T60 l0 a1).f0) < ((rd_T60 l0 a2).f0))))) else (some (decide (((rd_T60 l0 a1).f2) < ((rd_T60 l0 a2).f2))))) else (none)) else (none)) else (none)) else (none)) = some r := h
 clear h
 by_cases c4 : 0 ≤ a1
 rotate_left
 ·rw [if_neg c4] at H; exact absurd H (by simp)
 rw [if_pos c4] at H
 have c4b0 : decide (0 ≤ a1) = true := decide_eq_true c4
 clear c4
 by_cases c5 : a1 < (l0.length : Int)
 rotate_left
 ·rw [if_neg c5] at H; exact absurd H (by simp)
 rw [if_pos c5] at H
 have c5b0 : decide (a1 < (l0.length : Int)) = true := decide_eq_true c5
 clear c5
 by_cases c6 : 0 ≤ a2
 rotate_left
 ·rw [if_neg c6] at H; exact absurd H (by simp)
 rw [if_pos c6] at H
 have c6b0 : decide (0 ≤ a2) = true := decide_eq_true c6
 clear c6
 by_cases c7 : a2 < (l0.length : Int)
 rotate_left
 ·rw [if_neg c7] at H; exact absurd H (by simp)
 rw [if_pos c7] at H
 have c7b0 : decide (a2 < (l0.length : Int)) = true := decide_eq_true c7
 clear c7
 by_cases c8 : ((rd_T60 l0 a1).f2) = ((rd_T60 l0 a2).f2)
 ·rw [if_pos c8] at H
  have c8b0 : (((rd_T60 l0 a1).f2) == ((rd_T60 l0 a2).f2)) = true := beq_iff_eq.mpr c8
  have c8b1 : (((rd_T60 l0 a1).f2) != ((rd_T60 l0 a2).f2)) = false := bne_eq_false_iff_eq.mpr c8
  clear c8
  by_cases c9 : ((rd_T60 l0 a1).f0) = ((rd_T60 l0 a2).f0)
  ·rw [if_pos c9] at H
   have c9b0 : (((rd_T60 l0 a1).f0) == ((rd_T60 l0 a2).f0)) = true := beq_iff_eq.mpr c9
   have c9b1 : (((rd_T60 l0 a1).f0) != ((rd_T60 l0 a2).f0)) = false := bne_eq_false_iff_eq.mpr c9
   clear c9
   obtain rfl := Option.some.inj H
   go_enter Try.func40, Try.ntmps40
   try go_wp2
   have n0_ := Aside0.mk (below_drew1 HB.out)
   clear HB
   have HB := n0_
   clear n0_
   have p190 : 0 ≤ (a1 : Int) := of_decide_eq_true (by first | (with_reducible assumption) | assumption)
   have q190 : a1 < (l0.length : Int) := of_decide_eq_true (by first | (with_reducible assumption) | assumption)
   obtain ⟨ad190, e190, hx190_0, hx190_1, hx190_2⟩ := at_T60 HR0.out a1 p190 q190
   have hw190_2 := hx190_2
   have hw190_1 := hx190_1
   have hw190_0 := hx190_0
   cases e190
   replace hx190_0 := (HB.out.cell (World.block_lt_of_cell? w _ hx190_0)).trans hx190_0
   replace hx190_1 := (HB.out.cell (World.block_lt_of_cell? w _ hx190_1)).trans hx190_1
   replace hx190_2 := (HB.out.cell (World.block_lt_of_cell? w _ hx190_2)).trans hx190_2
   replace p190 := eq_true p190
   replace q190 := eq_true q190
   have p191 : 0 ≤ (a2 : Int) := of_decide_eq_true (by first | (with_reducible assumption) | assumption)
   have q191 : a2 < (l0.length : Int) := of_decide_eq_true (by first | (with_reducible assumption) | assumption)
   obtain ⟨ad191, e191, hx191_0, hx191_1, hx191_2⟩ := at_T60 HR0.out a2 p191 q191
   have hw191_2 := hx191_2
   have hw191_1 := hx191_1
   have hw191_0 := hx191_0
   obtain rfl : ad190 = ad191 := (by injection e191)
   replace hx191_0 := (HB.out.cell (World.block_lt_of_cell? w _ hx191_0)).trans hx191_0
   replace hx191_1 := (HB.out.cell (World.block_lt_of_cell? w _ hx191_1)).trans hx191_1
   replace hx191_2 := (HB.out.cell (World.block_lt_of_cell? w _ hx191_2)).trans hx191_2
   replace p191 := eq_true p191
   replace q191 := eq_true q191
   refine start_ (n := 12) (S := fun w' => w'.cell? (ad190.add ((a1).toNat * 3)) = some (.int .i64 ((rd_T60 l0 a1).f0)) ∧ w'.cell? ⟨(ad190.add ((a1).toNat * 3)).block, (ad190.add ((a1).toNat * 3)).off + 1, none⟩ = some (.int .i64 ((rd_T60 l0 a1).f1)) ∧ w'.cell? ⟨(ad190.add ((a1).toNat * 3)).block, (ad190.add ((a1).toNat * 3)).off + 2, none⟩ = some (.int .i64 ((rd_T60 l0 a1).f2)) ∧ w'.cell? (ad190.add ((a2).toNat * 3)) = some (.int .i64 ((rd_T60 l0 a2).f0)) ∧ w'.cell? ⟨(ad190.add ((a2).toNat * 3)).block, (ad190.add ((a2).toNat * 3)).off + 1, none⟩ = some (.int .i64 ((rd_T60 l0 a2).f1)) ∧ w'.cell? ⟨(ad190.add ((a2).toNat * 3)).block, (ad190.add ((a2).toNat * 3)).off + 2, none⟩ = some (.int .i64 ((rd_T60 l0 a2).f2))) (ds := []) #[false, false, false, false, false, false, false, false, false, false, false, false] (by kernel_rfl) rfl rfl ⟨((HB.out.cell (World.block_lt_of_cell? w _ hw190_0)).trans hw190_0), ((HB.out.cell (World.block_lt_of_cell? w _ hw190_1)).trans hw190_1), ((HB.out.cell (World.block_lt_of_cell? w _ hw190_2)).trans hw190_2), ((HB.out.cell (World.block_lt_of_cell? w _ hw191_0)).trans hw191_0), ((HB.out.cell (World.block_lt_of_cell? w _ hw191_1)).trans hw191_1), ((HB.out.cell (World.block_lt_of_cell? w _ hw191_2)).trans hw191_2)⟩ (fun hHeld => ?_); refine with_tabW titheref10_ahead.tab1 titheref10_ahead.bits1 (fun HT_ HW_ => ?_)
   generalize w.drew = w10 at HB hx190_0 hx190_1 hx190_2 hx191_0 hx191_1 hx191_2 hHeld ⊢
   refine pure_ (i := 0) (N := some 9) (v := ?_) (a' := ?_) #[true, false, false, false, false, false, false, false, false, false, false, false] rfl rfl (any_of HT_.out (by kernel_rfl)) (fun _ _ _ h => h) (Or.inl ⟨by rfl, ?_⟩) ?_ ?_; rotate_left; intro w'; go_simp; with_reducible rfl; rotate_left; simp only [Act.put, List.setIfInBounds_toArray, List.set_cons_zero, List.set_cons_succ, i64_w, i32_w]; rfl
   refine pure_ (i := 1) (N := some 10) (v := ?_) (a' := ?_) #[true, true, false, false, false, false, false, false, false, false, false, false] rfl rfl (any_of HT_.out (by kernel_rfl)) (fun _ _ _ h => h) (Or.inl ⟨by rfl, ?_⟩) ?_ ?_; rotate_left; intro w'; go_simp; with_reducible rfl; rotate_left; simp only [Act.put, List.setIfInBounds_toArray, List.set_cons_zero, List.set_cons_succ, i64_w, i32_w]; rfl
   refine pure_ (i := 2) (N := some 11) (v := ?_) (a' := ?_) #[true, true, true, false, false, false, false, false, false, false, false, false] rfl rfl (any_of HT_.out (by kernel_rfl)) (fun _ _ _ h => h) (Or.inl ⟨by rfl, ?_⟩) ?_ ?_; rotate_left; intro w'; go_simp; with_reducible rfl; rotate_left; simp only [Act.put, List.setIfInBounds_toArray, List.set_cons_zero, List.set_cons_succ, i64_w, i32_w]; rfl
   refine pure_ (i := 4) (N := some 13) (v := ?_) (a' := ?_) #[true, true, true, false, true, false, false, false, false, false, false, false] rfl rfl (any_of HT_.out (by kernel_rfl)) (fun _ _ _ h => h) (Or.inl ⟨by rfl, ?_⟩) ?_ ?_; rotate_left; intro w'; go_simp; with_reducible rfl; rotate_left; simp only [Act.put, List.setIfInBounds_toArray, List.set_cons_zero, List.set_cons_succ, i64_w, i32_w]; rfl
   refine pure_ (i := 5) (N := some 14) (v := ?_) (a' := ?_) #[true, true, true, false, true, true, false, false, false, false, false, false] rfl rfl (any_of HT_.out (by kernel_rfl)) (fun _ _ _ h => h) (Or.inl ⟨by rfl, ?_⟩) ?_ ?_; rotate_left; intro w'; go_simp; with_reducible rfl; rotate_left; simp only [Act.put, List.setIfInBounds_toArray, List.set_cons_zero, List.set_cons_succ, i64_w, i32_w]; rfl
   refine pure_ (i := 6) (N := some 15) (v := ?_) (a' := ?_) #[true, true, true, false, true, true, true, false, false, false, false, false] rfl rfl (any_of HT_.out (by kernel_rfl)) (fun _ _ _ h => h) (Or.inl ⟨by rfl, ?_⟩) ?_ ?_; rotate_left; intro w'; go_simp; with_reducible rfl; rotate_left; simp only [Act.put, List.setIfInBounds_toArray, List.set_cons_zero, List.set_cons_succ, i64_w, i32_w]; rfl
   refine take_ (i := 3) (N := some 12) (v := ?_) (a' := ?_) #[true, true, true, true, true, true, true, false, false, false, false, false] rfl rfl (take_ofW HT_.out HW_.out (by kernel_rfl)) (fun _ _ _ h => h) (Or.inl ⟨by rfl, ?_⟩) hHeld ?_ ?_
   rotate_left
   ·rintro w' ⟨s0, s1, s2, s3, s4, s5⟩
    go_simp
    with_reducible rfl
   rotate_left
   ·simp only [Act.put, List.setIfInBounds_toArray, List.set_cons_zero, List.set_cons_succ, i64_w, i32_w]
    rfl
   refine take_ (i := 7) (N := some 16) (v := ?_) (a' := ?_) #[true, true, true, true, true, true, true, true, false, false, false, false] rfl rfl (take_ofW HT_.out HW_.out (by kernel_rfl)) (fun _ _ _ h => h) (Or.inl ⟨by rfl, ?_⟩) hHeld ?_ ?_
   rotate_left
   ·rintro w' ⟨s0, s1, s2, s3, s4, s5⟩
    go_simp
    with_reducible rfl
   rotate_left
   ·simp only [Act.put, List.setIfInBounds_toArray, List.set_cons_zero, List.set_cons_succ, i64_w, i32_w]
    rfl
   refine join_ (σ := Nat × Nat) 2 #[true, true, true, true, true, true, true, true, true, true, false, false] (fun s_ => [(7, .pointer (some ⟨s_.1, 0, none⟩)), (8, .pointer (some ⟨s_.2, 0, none⟩))]) (fun s_ w' => (w'.cell? (ad190.add ((a1).toNat * 3)) = some (.int .i64 ((rd_T60 l0 a1).f0)) ∧ w'.cell? ⟨(ad190.add ((a1).toNat * 3)).block, (ad190.add ((a1).toNat * 3)).off + 1, none⟩ = some (.int .i64 ((rd_T60 l0 a1).f1)) ∧ w'.cell? ⟨(ad190.add ((a1).toNat * 3)).block, (ad190.add ((a1).toNat * 3)).off + 2, none⟩ = some (.int .i64 ((rd_T60 l0 a1).f2)) ∧ w'.cell? (ad190.add ((a2).toNat * 3)) = some (.int .i64 ((rd_T60 l0 a2).f0)) ∧ w'.cell? ⟨(ad190.add ((a2).toNat * 3)).block, (ad190.add ((a2).toNat * 3)).off + 1, none⟩ = some (.int .i64 ((rd_T60 l0 a2).f1)) ∧ w'.cell? ⟨(ad190.add ((a2).toNat * 3)).block, (ad190.add ((a2).toNat * 3)).off + 2, none⟩ = some (.int .i64 ((rd_T60 l0 a2).f2))) ∧ (w'.heap[s_.1]? = some (.cells #[.int .i64 0, .int .i64 0, .int .i64 0] 60 (0, 0))) ∧ (w'.heap[s_.2]? = some (.cells #[.int .i64 0, .int .i64 0, .int .i64 0] 60 (0, 0))) ∧ (w.heap.size ≤ s_.1) ∧ (w.heap.size ≤ s_.1) ∧ (s_.2 ≠ s_.1) ∧ (s_.1 ≠ s_.2) ∧ (w.heap.size ≤ s_.2) ∧ (w.heap.size ≤ s_.2) ∧ (Below w.heap.size w w')) ?_ ?_
   rotate_left
   ·intro hCont
    refine two_ (i := 8) (j := 9) (Ni := some 7) (Nj := some 8) #[true, true, true, true, true, true, true, true, true, false, false, false] #[true, true, true, true, true, true, true, true, false, true, false, false] rfl rfl rfl rfl (two_of HT_.out (by kernel_rfl)) (by decide) (by decide) (fun K hK => ?_) (fun K hK => ?_)
    ·skip
     refine box_step ?hg (N := 7) ?hd (cs := #[.int .i64 0, .int .i64 0, .int .i64 0]) (t := 60) ?hr ?_; (case hd => rfl); (case hg => rfl); (case hr => first | (go_simp; done) | (go_simp; rfl))
     intro gb192 hg w11 hbox hb
     have n0_ := Aside0.mk (below_step (by repeat (first | (with_reducible first | exact HB.out | apply below_alloc | apply pw_below_drewN | apply below_drew1) | exact HB.out)) hb)
     have n1_ := Aside0.mk (hbox)
     have n2_ := Aside0.mk ((by rw [hg]; exact (below_size (by repeat (first | (with_reducible first | exact HB.out | apply below_alloc | apply pw_below_drewN | apply below_drew1) | exact HB.out))) : w.heap.size ≤ gb192))
     have n3_ := Aside0.mk ((by rw [hg]; exact (below_size (by repeat (first | (with_reducible first | exact HB.out | apply below_alloc | apply pw_below_drewN | apply below_drew1) | exact HB.out))) : w.heap.size ≤ gb192))
     clear HB
     have HB := n0_
     have BK192 := n1_
     have GW192 := n2_
     have GE192 := n3_
     clear n0_ n1_ n2_ n3_
     clear hb hbox hg
     refine hK.out _ _ ⟨((HB.out.cell (World.block_lt_of_cell? w _ hw190_0)).trans hw190_0), ((HB.out.cell (World.block_lt_of_cell? w _ hw190_1)).trans hw190_1), ((HB.out.cell (World.block_lt_of_cell? w _ hw190_2)).trans hw190_2), ((HB.out.cell (World.block_lt_of_cell? w _ hw191_0)).trans hw191_0), ((HB.out.cell (World.block_lt_of_cell? w _ hw191_1)).trans hw191_1), ((HB.out.cell (World.block_lt_of_cell? w _ hw191_2)).trans hw191_2)⟩ (fun hHeld => ?_)
     clear hK K
     refine norm_ (a' := ?_) ?_ ?_
     rotate_left
     ·show Act.put _ (some 7) _ = _
      simp only [Act.put, List.setIfInBounds_toArray, List.set_cons_zero, List.set_cons_succ, i64_w, i32_w]
      rfl
     refine one_ (i := 9) (N := some 8) #[true, true, true, true, true, true, true, true, true, true, false, false] rfl rfl (one_of HT_.out (by kernel_rfl)) (by decide) (fun K hK => ?_)
     refine box_step ?hg (N := 8) ?hd (cs := #[.int .i64 0, .int .i64 0, .int .i64 0]) (t := 60) ?hr ?_; (case hd => rfl); (case hg => rfl); (case hr => first | (go_simp; done) | (go_simp; rfl))
     intro gb193 hg w12 hbox hb
     have n0_ := Aside0.mk (blk_below (g := gb192) (o := .cells #[.int .i64 0, .int .i64 0, .int .i64 0] 60 (0, 0)) (by (with_reducible repeat (first | refine blk_drewN ?_ _ | refine blk_drew ?_ | refine blk_alloc ?_ _)); exact BK192.out) hb)
     have n1_ := Aside0.mk (below_step (by repeat (first | (with_reducible first | exact HB.out | apply below_alloc | apply pw_below_drewN | apply below_drew1 | refine below_set ?_ GE192.out) | exact HB.out)) hb)
     have n2_ := Aside0.mk (hbox)
     have n3_ := Aside0.mk ((by rw [hg]; exact (below_size (by repeat (first | (with_reducible first | exact HB.out | apply below_alloc | apply pw_below_drewN | apply below_drew1 | refine below_set ?_ GE192.out) | exact HB.out))) : w.heap.size ≤ gb193))
     have n4_ := Aside0.mk ((by rw [hg]; exact (below_size (by repeat (first | (with_reducible first | exact HB.out | apply below_alloc | apply pw_below_drewN | apply below_drew1 | refine below_set ?_ GE192.out) | exact HB.out))) : w.heap.size ≤ gb193))
     have n5_ := Aside0.mk ((by rw [hg]; exact Nat.ne_of_lt (blk_lt (g := gb192) (o := .cells #[.int .i64 0, .int .i64 0, .int .i64 0] 60 (0, 0)) (by (with_reducible repeat (first | refine blk_drewN ?_ _ | refine blk_drew ?_ | refine blk_alloc ?_ _)); exact BK192.out)) : gb192 ≠ gb193))
     have n6_ := Aside0.mk ((by rw [hg]; exact Nat.ne_of_gt (blk_lt (g := gb192) (o := .cells #[.int .i64 0, .int .i64 0, .int .i64 0] 60 (0, 0)) (by (with_reducible repeat (first | refine blk_drewN ?_ _ | refine blk_drew ?_ | refine blk_alloc ?_ _)); exact BK192.out)) : gb193 ≠ gb192))
     clear BK192
     clear HB
     have BK192 := n0_
     have HB := n1_
     have BK193 := n2_
     have GW193 := n3_
     have GE193 := n4_
     have NB192_193 := n5_
     have NB193_192 := n6_
     clear n0_ n1_ n2_ n3_ n4_ n5_ n6_
     clear hb hbox hg
     refine hK.out _ _ ⟨((HB.out.cell (World.block_lt_of_cell? w _ hw190_0)).trans hw190_0), ((HB.out.cell (World.block_lt_of_cell? w _ hw190_1)).trans hw190_1), ((HB.out.cell (World.block_lt_of_cell? w _ hw190_2)).trans hw190_2), ((HB.out.cell (World.block_lt_of_cell? w _ hw191_0)).trans hw191_0), ((HB.out.cell (World.block_lt_of_cell? w _ hw191_1)).trans hw191_1), ((HB.out.cell (World.block_lt_of_cell? w _ hw191_2)).trans hw191_2)⟩ (fun hHeld => ?_)
     clear hK K
     refine norm_ (a' := ?_) ?_ ?_
     rotate_left
     ·show Act.put _ (some 8) _ = _
      simp only [Act.put, List.setIfInBounds_toArray, List.set_cons_zero, List.set_cons_succ, i64_w, i32_w]
      rfl
     exact norm_ (by simp only [putAll, Act.put, List.setIfInBounds_toArray, List.set_cons_zero, List.set_cons_succ]) (hCont (gb192, gb193) _ ⟨hHeld, (by (with_reducible repeat (first | refine blk_drewN ?_ _ | refine blk_drew ?_ | refine blk_alloc ?_ _)); exact BK192.out), (by (with_reducible repeat (first | refine blk_drewN ?_ _ | refine blk_drew ?_ | refine blk_alloc ?_ _)); exact BK193.out), GW192.out, GE192.out, NB193_192.out, NB192_193.out, GW193.out, GE193.out, (by repeat (first | (with_reducible first | exact HB.out | apply below_alloc | apply pw_below_drewN | apply below_drew1 | refine below_set ?_ GE192.out | refine below_set ?_ GE193.out) | exact HB.out))⟩)
    ·skip
     refine box_step ?hg (N := 8) ?hd (cs := #[.int .i64 0, .int .i64 0, .int .i64 0]) (t := 60) ?hr ?_; (case hd => rfl); (case hg => rfl); (case hr => first | (go_simp; done) | (go_simp; rfl))
     intro gb193 hg w11 hbox hb
     have n0_ := Aside0.mk (below_step (by repeat (first | (with_reducible first | exact HB.out | apply below_alloc | apply pw_below_drewN | apply below_drew1) | exact HB.out)) hb)
     have n1_ := Aside0.mk (hbox)
     have n2_ := Aside0.mk ((by rw [hg]; exact (below_size (by repeat (first | (with_reducible first | exact HB.out | apply below_alloc | apply pw_below_drewN | apply below_drew1) | exact HB.out))) : w.heap.size ≤ gb193))
     have n3_ := Aside0.mk ((by rw [hg]; exact (below_size (by repeat (first | (with_reducible first | exact HB.out | apply below_alloc | apply pw_below_drewN | apply below_drew1) | exact HB.out))) : w.heap.size ≤ gb193))
     clear HB
     have HB := n0_
     have BK193 := n1_
     have GW193 := n2_
     have GE193 := n3_
     clear n0_ n1_ n2_ n3_
     clear hb hbox hg
     refine hK.out _ _ ⟨((HB.out.cell (World.block_lt_of_cell? w _ hw190_0)).trans hw190_0), ((HB.out.cell (World.block_lt_of_cell? w _ hw190_1)).trans hw190_1), ((HB.out.cell (World.block_lt_of_cell? w _ hw190_2)).trans hw190_2), ((HB.out.cell (World.block_lt_of_cell? w _ hw191_0)).trans hw191_0), ((HB.out.cell (World.block_lt_of_cell? w _ hw191_1)).trans hw191_1), ((HB.out.cell (World.block_lt_of_cell? w _ hw191_2)).trans hw191_2)⟩ (fun hHeld => ?_)
     clear hK K
     refine norm_ (a' := ?_) ?_ ?_
     rotate_left
     ·show Act.put _ (some 8) _ = _
      simp only [Act.put, List.setIfInBounds_toArray, List.set_cons_zero, List.set_cons_succ, i64_w, i32_w]
      rfl
     refine one_ (i := 8) (N := some 7) #[true, true, true, true, true, true, true, true, true, true, false, false] rfl rfl (one_of HT_.out (by kernel_rfl)) (by decide) (fun K hK => ?_)
     refine box_step ?hg (N := 7) ?hd (cs := #[.int .i64 0, .int .i64 0, .int .i64 0]) (t := 60) ?hr ?_; (case hd => rfl); (case hg => rfl); (case hr => first | (go_simp; done) | (go_simp; rfl))
     intro gb192 hg w12 hbox hb
     have n0_ := Aside0.mk (blk_below (g := gb193) (o := .cells #[.int .i64 0, .int .i64 0, .int .i64 0] 60 (0, 0)) (by (with_reducible repeat (first | refine blk_drewN ?_ _ | refine blk_drew ?_ | refine blk_alloc ?_ _)); exact BK193.out) hb)
     have n1_ := Aside0.mk (below_step (by repeat (first | (with_reducible first | exact HB.out | apply below_alloc | apply pw_below_drewN | apply below_drew1 | refine below_set ?_ GE193.out) | exact HB.out)) hb)
     have n2_ := Aside0.mk (hbox)
     have n3_ := Aside0.mk ((by rw [hg]; exact (below_size (by repeat (first | (with_reducible first | exact HB.out | apply below_alloc | apply pw_below_drewN | apply below_drew1 | refine below_set ?_ GE193.out) | exact HB.out))) : w.heap.size ≤ gb192))
     have n4_ := Aside0.mk ((by rw [hg]; exact (below_size (by repeat (first | (with_reducible first | exact HB.out | apply below_alloc | apply pw_below_drewN | apply below_drew1 | refine below_set ?_ GE193.out) | exact HB.out))) : w.heap.size ≤ gb192))
     have n5_ := Aside0.mk ((by rw [hg]; exact Nat.ne_of_lt (blk_lt (g := gb193) (o := .cells #[.int .i64 0, .int .i64 0, .int .i64 0] 60 (0, 0)) (by (with_reducible repeat (first | refine blk_drewN ?_ _ | refine blk_drew ?_ | refine blk_alloc ?_ _)); exact BK193.out)) : gb193 ≠ gb192))
     have n6_ := Aside0.mk ((by rw [hg]; exact Nat.ne_of_gt (blk_lt (g := gb193) (o := .cells #[.int .i64 0, .int .i64 0, .int .i64 0] 60 (0, 0)) (by (with_reducible repeat (first | refine blk_drewN ?_ _ | refine blk_drew ?_ | refine blk_alloc ?_ _)); exact BK193.out)) : gb192 ≠ gb193))
     clear BK193
     clear HB
     have BK193 := n0_
     have HB := n1_
     have BK192 := n2_
     have GW192 := n3_
     have GE192 := n4_
     have NB193_192 := n5_
     have NB192_193 := n6_
     clear n0_ n1_ n2_ n3_ n4_ n5_ n6_
     clear hb hbox hg
     refine hK.out _ _ ⟨((HB.out.cell (World.block_lt_of_cell? w _ hw190_0)).trans hw190_0), ((HB.out.cell (World.block_lt_of_cell? w _ hw190_1)).trans hw190_1), ((HB.out.cell (World.block_lt_of_cell? w _ hw190_2)).trans hw190_2), ((HB.out.cell (World.block_lt_of_cell? w _ hw191_0)).trans hw191_0), ((HB.out.cell (World.block_lt_of_cell? w _ hw191_1)).trans hw191_1), ((HB.out.cell (World.block_lt_of_cell? w _ hw191_2)).trans hw191_2)⟩ (fun hHeld => ?_)
     clear hK K
     refine norm_ (a' := ?_) ?_ ?_
     rotate_left
     ·show Act.put _ (some 7) _ = _
      simp only [Act.put, List.setIfInBounds_toArray, List.set_cons_zero, List.set_cons_succ, i64_w, i32_w]
      rfl
     exact norm_ (by simp only [putAll, Act.put, List.setIfInBounds_toArray, List.set_cons_zero, List.set_cons_succ]) (hCont (gb192, gb193) _ ⟨hHeld, (by (with_reducible repeat (first | refine blk_drewN ?_ _ | refine blk_drew ?_ | refine blk_alloc ?_ _)); exact BK192.out), (by (with_reducible repeat (first | refine blk_drewN ?_ _ | refine blk_drew ?_ | refine blk_alloc ?_ _)); exact BK193.out), GW192.out, GE192.out, NB193_192.out, NB192_193.out, GW193.out, GE193.out, (by repeat (first | (with_reducible first | exact HB.out | apply below_alloc | apply pw_below_drewN | apply below_drew1 | refine below_set ?_ GE193.out | refine below_set ?_ GE192.out) | exact HB.out))⟩)
   rintro ⟨gb192, gb193⟩ w13 ⟨hS_, h0_, h1_, h2_, h3_, h4_, h5_, h6_, h7_, h8_⟩
   have n0_ : Aside0 (w13.heap[gb192]? = some (.cells #[.int .i64 0, .int .i64 0, .int .i64 0] 60 (0, 0))) := ⟨h0_⟩
   have n1_ : Aside0 (w13.heap[gb193]? = some (.cells #[.int .i64 0, .int .i64 0, .int .i64 0] 60 (0, 0))) := ⟨h1_⟩
   have n2_ : Aside0 (w.heap.size ≤ gb192) := ⟨h2_⟩
   have n3_ : Aside0 (w.heap.size ≤ gb192) := ⟨h3_⟩
   have n4_ : Aside0 (gb193 ≠ gb192) := ⟨h4_⟩
   have n5_ : Aside0 (gb192 ≠ gb193) := ⟨h5_⟩
   have n6_ : Aside0 (w.heap.size ≤ gb193) := ⟨h6_⟩
   have n7_ : Aside0 (w.heap.size ≤ gb193) := ⟨h7_⟩
   have n8_ : Aside0 (Below w.heap.size w w13) := ⟨h8_⟩
   clear HB
   clear h0_ h1_ h2_ h3_ h4_ h5_ h6_ h7_ h8_
   have BK192 := n0_
   have BK193 := n1_
   have GW192 := n2_
   have GE192 := n3_
   have NB193_192 := n4_
   have NB192_193 := n5_
   have GW193 := n6_
   have GE193 := n7_
   have HB := n8_
   clear n0_ n1_ n2_ n3_ n4_ n5_ n6_ n7_ n8_
   have hHeld : w13.cell? (ad190.add ((a1).toNat * 3)) = some (.int .i64 ((rd_T60 l0 a1).f0)) ∧ w13.cell? ⟨(ad190.add ((a1).toNat * 3)).block, (ad190.add ((a1).toNat * 3)).off + 1, none⟩ = some (.int .i64 ((rd_T60 l0 a1).f1)) ∧ w13.cell? ⟨(ad190.add ((a1).toNat * 3)).block, (ad190.add ((a1).toNat * 3)).off + 2, none⟩ = some (.int .i64 ((rd_T60 l0 a1).f2)) ∧ w13.cell? (ad190.add ((a2).toNat * 3)) = some (.int .i64 ((rd_T60 l0 a2).f0)) ∧ w13.cell? ⟨(ad190.add ((a2).toNat * 3)).block, (ad190.add ((a2).toNat * 3)).off + 1, none⟩ = some (.int .i64 ((rd_T60 l0 a2).f1)) ∧ w13.cell? ⟨(ad190.add ((a2).toNat * 3)).block, (ad190.add ((a2).toNat * 3)).off + 2, none⟩ = some (.int .i64 ((rd_T60 l0 a2).f2)) := hS_
   refine norm_ (a' := ?_) ?_ ?_
   rotate_left
   ·simp only [putAll, Act.put, List.setIfInBounds_toArray, List.set_cons_zero, List.set_cons_succ]
    rfl
   refine one_ (i := 10) (N := none) #[true, true, true, true, true, true, true, true, true, true, true, false] rfl rfl (one_of HT_.out (by kernel_rfl)) (by decide) (fun K hK => ?_)
   have hs14 : w13.cell? ⟨gb192, 0, none⟩ = some (.int .i64 0) := (blk_cell BK192.out 0).trans (by rfl)
   have hfs14 := blk_frozen BK192.out 0
   have hns14_1 := NB193_192.out
   have hms14_1 := NB192_193.out
   have hs15 : w13.cell? ⟨gb192, 1, none⟩ = some (.int .i64 0) := (blk_cell BK192.out 1).trans (by rfl)
   have hfs15 := blk_frozen BK192.out 1
   have hns15_1 := NB193_192.out
   have hms15_1 := NB192_193.out
   have hs16 : w13.cell? ⟨gb192, 2, none⟩ = some (.int .i64 0) := (blk_cell BK192.out 2).trans (by rfl)
   have hfs16 := blk_frozen BK192.out 2
   have hns16_1 := NB193_192.out
   have hms16_1 := NB192_193.out
   refine skip_ (w1 := ?_) (by rfl) rfl ?_ ?_; rotate_left; go_simp; rfl
   have hz0_ : ad190.block ≠ gb192 := Nat.ne_of_lt (Nat.lt_of_lt_of_le (by have := World.block_lt_of_cell? _ _ hw190_1; first | rwa [add_block] at this | exact this) GW192.out)
   refine hK.out _ _ ⟨((cell_far (p := ⟨gb192, _, none⟩) (by first | exact hz0_ | (rw [add_block]; exact hz0_)) _).trans (((cell_far (p := ⟨gb192, _, none⟩) (by first | exact hz0_ | (rw [add_block]; exact hz0_)) _).trans (((cell_far (p := ⟨gb192, _, none⟩) (by first | exact hz0_ | (rw [add_block]; exact hz0_)) _).trans (hHeld.1)))))), ((cell_far (p := ⟨gb192, _, none⟩) (by first | exact hz0_ | (rw [add_block]; exact hz0_)) _).trans (((cell_far (p := ⟨gb192, _, none⟩) (by first | exact hz0_ | (rw [add_block]; exact hz0_)) _).trans (((cell_far (p := ⟨gb192, _, none⟩) (by first | exact hz0_ | (rw [add_block]; exact hz0_)) _).trans (hHeld.2.1)))))), ((cell_far (p := ⟨gb192, _, none⟩) (by first | exact hz0_ | (rw [add_block]; exact hz0_)) _).trans (((cell_far (p := ⟨gb192, _, none⟩) (by first | exact hz0_ | (rw [add_block]; exact hz0_)) _).trans (((cell_far (p := ⟨gb192, _, none⟩) (by first | exact hz0_ | (rw [add_block]; exact hz0_)) _).trans (hHeld.2.2.1)))))), ((cell_far (p := ⟨gb192, _, none⟩) (by first | exact hz0_ | (rw [add_block]; exact hz0_)) _).trans (((cell_far (p := ⟨gb192, _, none⟩) (by first | exact hz0_ | (rw [add_block]; exact hz0_)) _).trans (((cell_far (p := ⟨gb192, _, none⟩) (by first | exact hz0_ | (rw [add_block]; exact hz0_)) _).trans (hHeld.2.2.2.1)))))), ((cell_far (p := ⟨gb192, _, none⟩) (by first | exact hz0_ | (rw [add_block]; exact hz0_)) _).trans (((cell_far (p := ⟨gb192, _, none⟩) (by first | exact hz0_ | (rw [add_block]; exact hz0_)) _).trans (((cell_far (p := ⟨gb192, _, none⟩) (by first | exact hz0_ | (rw [add_block]; exact hz0_)) _).trans (hHeld.2.2.2.2.1)))))), ((cell_far (p := ⟨gb192, _, none⟩) (by first | exact hz0_ | (rw [add_block]; exact hz0_)) _).trans (((cell_far (p := ⟨gb192, _, none⟩) (by first | exact hz0_ | (rw [add_block]; exact hz0_)) _).trans (((cell_far (p := ⟨gb192, _, none⟩) (by first | exact hz0_ | (rw [add_block]; exact hz0_)) _).trans (hHeld.2.2.2.2.2))))))⟩ (fun hHeld => ?_)
   clear hK K
   refine one_ (i := 11) (N := none) #[true, true, true, true, true, true, true, true, true, true, true, true] rfl rfl (one_of HT_.out (by kernel_rfl)) (by decide) (fun K hK => ?_)
   have hs17 : w13.cell? ⟨gb193, 0, none⟩ = some (.int .i64 0) := (blk_cell BK193.out 0).trans (by rfl)
   have hfs17 := blk_frozen BK193.out 0
   have hns17_0 := NB192_193.out
   have hms17_0 := NB193_192.out
   have hs18 : w13.cell? ⟨gb193, 1, none⟩ = some (.int .i64 0) := (blk_cell BK193.out 1).trans (by rfl)
   have hfs18 := blk_frozen BK193.out 1
   have hns18_0 := NB192_193.out
   have hms18_0 := NB193_192.out
   have hs19 : w13.cell? ⟨gb193, 2, none⟩ = some (.int .i64 0) := (blk_cell BK193.out 2).trans (by rfl)
   have hfs19 := blk_frozen BK193.out 2
   have hns19_0 := NB192_193.out
   have hms19_0 := NB193_192.out
   refine skip_ (w1 := ?_) (by rfl) rfl ?_ ?_; rotate_left; go_simp; rfl
   have hz0_ : ad190.block ≠ gb193 := Nat.ne_of_lt (Nat.lt_of_lt_of_le (by have := World.block_lt_of_cell? _ _ hw191_0; first | rwa [add_block] at this | exact this) GW193.out)
   refine hK.out _ _ ⟨((cell_far (p := ⟨gb193, _, none⟩) (by first | exact hz0_ | (rw [add_block]; exact hz0_)) _).trans (((cell_far (p := ⟨gb193, _, none⟩) (by first | exact hz0_ | (rw [add_block]; exact hz0_)) _).trans (((cell_far (p := ⟨gb193, _, none⟩) (by first | exact hz0_ | (rw [add_block]; exact hz0_)) _).trans (hHeld.1)))))), ((cell_far (p := ⟨gb193, _, none⟩) (by first | exact hz0_ | (rw [add_block]; exact hz0_)) _).trans (((cell_far (p := ⟨gb193, _, none⟩) (by first | exact hz0_ | (rw [add_block]; exact hz0_)) _).trans (((cell_far (p := ⟨gb193, _, none⟩) (by first | exact hz0_ | (rw [add_block]; exact hz0_)) _).trans (hHeld.2.1)))))), ((cell_far (p := ⟨gb193, _, none⟩) (by first | exact hz0_ | (rw [add_block]; exact hz0_)) _).trans (((cell_far (p := ⟨gb193, _, none⟩) (by first | exact hz0_ | (rw [add_block]; exact hz0_)) _).trans (((cell_far (p := ⟨gb193, _, none⟩) (by first | exact hz0_ | (rw [add_block]; exact hz0_)) _).trans (hHeld.2.2.1)))))), ((cell_far (p := ⟨gb193, _, none⟩) (by first | exact hz0_ | (rw [add_block]; exact hz0_)) _).trans (((cell_far (p := ⟨gb193, _, none⟩) (by first | exact hz0_ | (rw [add_block]; exact hz0_)) _).trans (((cell_far (p := ⟨gb193, _, none⟩) (by first | exact hz0_ | (rw [add_block]; exact hz0_)) _).trans (hHeld.2.2.2.1)))))), ((cell_far (p := ⟨gb193, _, none⟩) (by first | exact hz0_ | (rw [add_block]; exact hz0_)) _).trans (((cell_far (p := ⟨gb193, _, none⟩) (by first | exact hz0_ | (rw [add_block]; exact hz0_)) _).trans (((cell_far (p := ⟨gb193, _, none⟩) (by first | exact hz0_ | (rw [add_block]; exact hz0_)) _).trans (hHeld.2.2.2.2.1)))))), ((cell_far (p := ⟨gb193, _, none⟩) (by first | exact hz0_ | (rw [add_block]; exact hz0_)) _).trans (((cell_far (p := ⟨gb193, _, none⟩) (by first | exact hz0_ | (rw [add_block]; exact hz0_)) _).trans (((cell_far (p := ⟨gb193, _, none⟩) (by first | exact hz0_ | (rw [add_block]; exact hz0_)) _).trans (hHeld.2.2.2.2.2))))))⟩ (fun hHeld => ?_)
   clear hK K
   refine done_ (done_of HT_.out (by kernel_rfl)) ?_
   have hnb20 := NB192_193.out
   have hnc20 := NB193_192.out
   have hcz21_0 : w13.cell? ⟨gb192, 0, none⟩ = some (.int .i64 0) := (blk_cell BK192.out 0).trans (by rfl)
   have hcz21_1 : w13.cell? ⟨gb192, 1, none⟩ = some (.int .i64 0) := (blk_cell BK192.out 1).trans (by rfl)
   have hcz21_2 : w13.cell? ⟨gb192, 2, none⟩ = some (.int .i64 0) := (blk_cell BK192.out 2).trans (by rfl)
   have hfz21_0 := blk_frozen BK192.out 0
   have hfz21_1 := blk_frozen BK192.out 1
   have hfz21_2 := blk_frozen BK192.out 2
   have hcz22_0 : w13.cell? ⟨gb193, 0, none⟩ = some (.int .i64 0) := (blk_cell BK193.out 0).trans (by rfl)
   have hcz22_1 : w13.cell? ⟨gb193, 1, none⟩ = some (.int .i64 0) := (blk_cell BK193.out 1).trans (by rfl)
   have hcz22_2 : w13.cell? ⟨gb193, 2, none⟩ = some (.int .i64 0) := (blk_cell BK193.out 2).trans (by rfl)
   have hfz22_0 := blk_frozen BK193.out 0
   have hfz22_1 := blk_frozen BK193.out 1
   have hfz22_2 := blk_frozen BK193.out 2
   try go_wp2
   go_ret
   exact ⟨by first | rfl | (simp [errW_none, errW_some] <;> rfl) | (simp [*, errW_none, errW_some] <;> rfl), by repeat (first | (with_reducible first | exact HB.out | apply below_alloc | apply pw_below_drewN | apply below_drew1 | refine below_set ?_ GE192.out | refine below_set ?_ GE193.out) | exact HB.out)⟩
  ·rw [if_neg c9] at H
   have c9b0 : (((rd_T60 l0 a1).f0) == ((rd_T60 l0 a2).f0)) = false := beq_eq_false_iff_ne.mpr c9
   have c9b1 : (((rd_T60 l0 a1).f0) != ((rd_T60 l0 a2).f0)) = true := bne_iff_ne.mpr c9
   obtain rfl := Option.some.inj H
   go_enter Try.func40, Try.ntmps40
   try go_wp2
   have n0_ := Aside0.mk (below_drew1 HB.out)
   clear HB
   have HB := n0_
   clear n0_
   have p190 : 0 ≤ (a1 : Int) := of_decide_eq_true (by first | (with_reducible assumption) | assumption)
   have q190 : a1 < (l0.length : Int) := of_decide_eq_true (by first | (with_reducible assumption) | assumption)
   obtain ⟨ad190, e190, hx190_0, hx190_1, hx190_2⟩ := at_T60 HR0.out a1 p190 q190
   have hw190_2 := hx190_2
   have hw190_1 := hx190_1
   have hw190_0 := hx190_0
   cases e190
   replace hx190_0 := (HB.out.cell (World.block_lt_of_cell? w _ hx190_0)).trans hx190_0
   replace hx190_1 := (HB.out.cell (World.block_lt_of_cell? w _ hx190_1)).trans hx190_1
   replace hx190_2 := (HB.out.cell (World.block_lt_of_cell? w _ hx190_2)).trans hx190_2
   replace p190 := eq_true p190
   replace q190 := eq_true q190
   have p191 : 0 ≤ (a2 : Int) := of_decide_eq_true (by first | (with_reducible assumption) | assumption)
   have q191 : a2 < (l0.length : Int) := of_decide_eq_true (by first | (with_reducible assumption) | assumption)
   obtain ⟨ad191, e191, hx191_0, hx191_1, hx191_2⟩ := at_T60 HR0.out a2 p191 q191
   have hw191_2 := hx191_2
   have hw191_1 := hx191_1
   have hw191_0 := hx191_0
   obtain rfl : ad190 = ad191 := (by injection e191)
   replace hx191_0 := (HB.out.cell (World.block_lt_of_cell? w _ hx191_0)).trans hx191_0
   replace hx191_1 := (HB.out.cell (World.block_lt_of_cell? w _ hx191_1)).trans hx191_1
   replace hx191_2 := (HB.out.cell (World.block_lt_of_cell? w _ hx191_2)).trans hx191_2
   replace p191 := eq_true p191
   replace q191 := eq_true q191
   refine start_ (n := 12) (S := fun w' => w'.cell? (ad190.add ((a1).toNat * 3)) = some (.int .i64 ((rd_T60 l0 a1).f0)) ∧ w'.cell? ⟨(ad190.add ((a1).toNat * 3)).block, (ad190.add ((a1).toNat * 3)).off + 1, none⟩ = some (.int .i64 ((rd_T60 l0 a1).f1)) ∧ w'.cell? ⟨(ad190.add ((a1).toNat * 3)).block, (ad190.add ((a1).toNat * 3)).off + 2, none⟩ = some (.int .i64 ((rd_T60 l0 a1).f2)) ∧ w'.cell? (ad190.add ((a2).toNat * 3)) = some (.int .i64 ((rd_T60 l0 a2).f0)) ∧ w'.cell? ⟨(ad190.add ((a2).toNat * 3)).block, (ad190.add ((a2).toNat * 3)).off + 1, none⟩ = some (.int .i64 ((rd_T60 l0 a2).f1)) ∧ w'.cell? ⟨(ad190.add ((a2).toNat * 3)).block, (ad190.add ((a2).toNat * 3)).off + 2, none⟩ = some (.int .i64 ((rd_T60 l0 a2).f2))) (ds := []) #[false, false, false, false, false, false, false, false, false, false, false, false] (by kernel_rfl) rfl rfl ⟨((HB.out.cell (World.block_lt_of_cell? w _ hw190_0)).trans hw190_0), ((HB.out.cell (World.block_lt_of_cell? w _ hw190_1)).trans hw190_1), ((HB.out.cell (World.block_lt_of_cell? w _ hw190_2)).trans hw190_2), ((HB.out.cell (World.block_lt_of_cell? w _ hw191_0)).trans hw191_0), ((HB.out.cell (World.block_lt_of_cell? w _ hw191_1)).trans hw191_1), ((HB.out.cell (World.block_lt_of_cell? w _ hw191_2)).trans hw191_2)⟩ (fun hHeld => ?_); refine with_tabW titheref10_ahead.tab1 titheref10_ahead.bits1 (fun HT_ HW_ => ?_)
   generalize w.drew = w23 at HB hx190_0 hx190_1 hx190_2 hx191_0 hx191_1 hx191_2 hHeld ⊢
   refine pure_ (i := 0) (N := some 9) (v := ?_) (a' := ?_) #[true, false, false, false, false, false, false, false, false, false, false, false] rfl rfl (any_of HT_.out (by kernel_rfl)) (fun _ _ _ h => h) (Or.inl ⟨by rfl, ?_⟩) ?_ ?_; rotate_left; intro w'; go_simp; with_reducible rfl; rotate_left; simp only [Act.put, List.setIfInBounds_toArray, List.set_cons_zero, List.set_cons_succ, i64_w, i32_w]; rfl
   refine pure_ (i := 1) (N := some 10) (v := ?_) (a' := ?_) #[true, true, false, false, false, false, false, false, false, false, false, false] rfl rfl (any_of HT_.out (by kernel_rfl)) (fun _ _ _ h => h) (Or.inl ⟨by rfl, ?_⟩) ?_ ?_; rotate_left; intro w'; go_simp; with_reducible rfl; rotate_left; simp only [Act.put, List.setIfInBounds_toArray, List.set_cons_zero, List.set_cons_succ, i64_w, i32_w]; rfl
   refine pure_ (i := 2) (N := some 11) (v := ?_) (a' := ?_) #[true, true, true, false, false, false, false, false, false, false, false, false] rfl rfl (any_of HT_.out (by kernel_rfl)) (fun _ _ _ h => h) (Or.inl ⟨by rfl, ?_⟩) ?_ ?_; rotate_left; intro w'; go_simp; with_reducible rfl; rotate_left; simp only [Act.put, List.setIfInBounds_toArray, List.set_cons_zero, List.set_cons_succ, i64_w, i32_w]; rfl
   refine pure_ (i := 4) (N := some 13) (v := ?_) (a' := ?_) #[true, true, true, false, true, false, false, false, false, false, false, false] rfl rfl (any_of HT_.out (by kernel_rfl)) (fun _ _ _ h => h) (Or.inl ⟨by rfl, ?_⟩) ?_ ?_; rotate_left; intro w'; go_simp; with_reducible rfl; rotate_left; simp only [Act.put, List.setIfInBounds_toArray, List.set_cons_zero, List.set_cons_succ, i64_w, i32_w]; rfl
   refine pure_ (i := 5) (N := some 14) (v := ?_) (a' := ?_) #[true, true, true, false, true, true, false, false, false, false, false, false] rfl rfl (any_of HT_.out (by kernel_rfl)) (fun _ _ _ h => h) (Or.inl ⟨by rfl, ?_⟩) ?_ ?_; rotate_left; intro w'; go_simp; with_reducible rfl; rotate_left; simp only [Act.put, List.setIfInBounds_toArray, List.set_cons_zero, List.set_cons_succ, i64_w, i32_w]; rfl
   refine pure_ (i := 6) (N := some 15) (v := ?_) (a' := ?_) #[true, true, true, false, true, true, true, false, false, false, false, false] rfl rfl (any_of HT_.out (by kernel_rfl)) (fun _ _ _ h => h) (Or.inl ⟨by rfl, ?_⟩) ?_ ?_; rotate_left; intro w'; go_simp; with_reducible rfl; rotate_left; simp only [Act.put, List.setIfInBounds_toArray, List.set_cons_zero, List.set_cons_succ, i64_w, i32_w]; rfl
   refine take_ (i := 3) (N := some 12) (v := ?_) (a' := ?_) #[true, true, true, true, true, true, true, false, false, false, false, false] rfl rfl (take_ofW HT_.out HW_.out (by kernel_rfl)) (fun _ _ _ h => h) (Or.inl ⟨by rfl, ?_⟩) hHeld ?_ ?_
   rotate_left
   ·rintro w' ⟨s0, s1, s2, s3, s4, s5⟩
    go_simp
    with_reducible rfl
   rotate_left
   ·simp only [Act.put, List.setIfInBounds_toArray, List.set_cons_zero, List.set_cons_succ, i64_w, i32_w]
    rfl
   refine take_ (i := 7) (N := some 16) (v := ?_) (a' := ?_) #[true, true, true, true, true, true, true, true, false, false, false, false] rfl rfl (take_ofW HT_.out HW_.out (by kernel_rfl)) (fun _ _ _ h => h) (Or.inl ⟨by rfl, ?_⟩) hHeld ?_ ?_
   rotate_left
   ·rintro w' ⟨s0, s1, s2, s3, s4, s5⟩
    go_simp
    with_reducible rfl
   rotate_left
   ·simp only [Act.put, List.setIfInBounds_toArray, List.set_cons_zero, List.set_cons_succ, i64_w, i32_w]
    rfl
   refine join_ (σ := Nat × Nat) 2 #[true, true, true, true, true, true, true, true, true, true, false, false] (fun s_ => [(7, .pointer (some ⟨s_.1, 0, none⟩)), (8, .pointer (some ⟨s_.2, 0, none⟩))]) (fun s_ w' => (w'.cell? (ad190.add ((a1).toNat * 3)) = some (.int .i64 ((rd_T60 l0 a1).f0)) ∧ w'.cell? ⟨(ad190.add ((a1).toNat * 3)).block, (ad190.add ((a1).toNat * 3)).off + 1, none⟩ = some (.int .i64 ((rd_T60 l0 a1).f1)) ∧ w'.cell? ⟨(ad190.add ((a1).toNat * 3)).block, (ad190.add ((a1).toNat * 3)).off + 2, none⟩ = some (.int .i64 ((rd_T60 l0 a1).f2)) ∧ w'.cell? (ad190.add ((a2).toNat * 3)) = some (.int .i64 ((rd_T60 l0 a2).f0)) ∧ w'.cell? ⟨(ad190.add ((a2).toNat * 3)).block, (ad190.add ((a2).toNat * 3)).off + 1, none⟩ = some (.int .i64 ((rd_T60 l0 a2).f1)) ∧ w'.cell? ⟨(ad190.add ((a2).toNat * 3)).block, (ad190.add ((a2).toNat * 3)).off + 2, none⟩ = some (.int .i64 ((rd_T60 l0 a2).f2))) ∧ (w'.heap[s_.1]? = some (.cells #[.int .i64 0, .int .i64 0, .int .i64 0] 60 (0, 0))) ∧ (w'.heap[s_.2]? = some (.cells #[.int .i64 0, .int .i64 0, .int .i64 0] 60 (0, 0))) ∧ (w.heap.size ≤ s_.1) ∧ (w.heap.size ≤ s_.1) ∧ (s_.2 ≠ s_.1) ∧ (s_.1 ≠ s_.2) ∧ (w.heap.size ≤ s_.2) ∧ (w.heap.size ≤ s_.2) ∧ (Below w.heap.size w w')) ?_ ?_
   rotate_left
   ·intro hCont
    refine two_ (i := 8) (j := 9) (Ni := some 7) (Nj := some 8) #[true, true, true, true, true, true, true, true, true, false, false, false] #[true, true, true, true, true, true, true, true, false, true, false, false] rfl rfl rfl rfl (two_of HT_.out (by kernel_rfl)) (by decide) (by decide) (fun K hK => ?_) (fun K hK => ?_)
    ·skip
     refine box_step ?hg (N := 7) ?hd (cs := #[.int .i64 0, .int .i64 0, .int .i64 0]) (t := 60) ?hr ?_; (case hd => rfl); (case hg => rfl); (case hr => first | (go_simp; done) | (go_simp; rfl))
     intro gb192 hg w24 hbox hb
     have n0_ := Aside0.mk (below_step (by repeat (first | (with_reducible first | exact HB.out | apply below_alloc | apply pw_below_drewN | apply below_drew1) | exact HB.out)) hb)
     have n1_ := Aside0.mk (hbox)
     have n2_ := Aside0.mk ((by rw [hg]; exact (below_size (by repeat (first | (with_reducible first | exact HB.out | apply below_alloc | apply pw_below_drewN | apply below_drew1) | exact HB.out))) : w.heap.size ≤ gb192))
     have n3_ := Aside0.mk ((by rw [hg]; exact (below_size (by repeat (first | (with_reducible first | exact HB.out | apply below_alloc | apply pw_below_drewN | apply below_drew1) | exact HB.out))) : w.heap.size ≤ gb192))
     clear HB
     have HB := n0_
     have BK192 := n1_
     have GW192 := n2_
     have GE192 := n3_
     clear n0_ n1_ n2_ n3_
     clear hb hbox hg
     refine hK.out _ _ ⟨((HB.out.cell (World.block_lt_of_cell? w _ hw190_0)).trans hw190_0), ((HB.out.cell (World.block_lt_of_cell? w _ hw190_1)).trans hw190_1), ((HB.out.cell (World.block_lt_of_cell? w _ hw190_2)).trans hw190_2), ((HB.out.cell (World.block_lt_of_cell? w _ hw191_0)).trans hw191_0), ((HB.out.cell (World.block_lt_of_cell? w _ hw191_1)).trans hw191_1), ((HB.out.cell (World.block_lt_of_cell? w _ hw191_2)).trans hw191_2)⟩ (fun hHeld => ?_)
     clear hK K
     refine norm_ (a' := ?_) ?_ ?_
     rotate_left
     ·show Act.put _ (some 7) _ = _
      simp only [Act.put, List.setIfInBounds_toArray, List.set_cons_zero, List.set_cons_succ, i64_w, i32_w]
      rfl
     refine one_ (i := 9) (N := some 8) #[true, true, true, true, true, true, true, true, true, true, false, false] rfl rfl (one_of HT_.out (by kernel_rfl)) (by decide) (fun K hK => ?_)
     refine box_step ?hg (N := 8) ?hd (cs := #[.int .i64 0, .int .i64 0, .int .i64 0]) (t := 60) ?hr ?_; (case hd => rfl); (case hg => rfl); (case hr => first | (go_simp; done) | (go_simp; rfl))
     intro gb193 hg w25 hbox hb
     have n0_ := Aside0.mk (blk_below (g := gb192) (o := .cells #[.int .i64 0, .int .i64 0, .int .i64 0] 60 (0, 0)) (by (with_reducible repeat (first | refine blk_drewN ?_ _ | refine blk_drew ?_ | refine blk_alloc ?_ _)); exact BK192.out) hb)
     have n1_ := Aside0.mk (below_step (by repeat (first | (with_reducible first | exact HB.out | apply below_alloc | apply pw_below_drewN | apply below_drew1 | refine below_set ?_ GE192.out) | exact HB.out)) hb)
     have n2_ := Aside0.mk (hbox)
     have n3_ := Aside0.mk ((by rw [hg]; exact (below_size (by repeat (first | (with_reducible first | exact HB.out | apply below_alloc | apply pw_below_drewN | apply below_drew1 | refine below_set ?_ GE192.out) | exact HB.out))) : w.heap.size ≤ gb193))
     have n4_ := Aside0.mk ((by rw [hg]; exact (below_size (by repeat (first | (with_reducible first | exact HB.out | apply below_alloc | apply pw_below_drewN | apply below_drew1 | refine below_set ?_ GE192.out) | exact HB.out))) : w.heap.size ≤ gb193))
     have n5_ := Aside0.mk ((by rw [hg]; exact Nat.ne_of_lt (blk_lt (g := gb192) (o := .cells #[.int .i64 0, .int .i64 0, .int .i64 0] 60 (0, 0)) (by (with_reducible repeat (first | refine blk_drewN ?_ _ | refine blk_drew ?_ | refine blk_alloc ?_ _)); exact BK192.out)) : gb192 ≠ gb193))
     have n6_ := Aside0.mk ((by rw [hg]; exact Nat.ne_of_gt (blk_lt (g := gb192) (o := .cells #[.int .i64 0, .int .i64 0, .int .i64 0] 60 (0, 0)) (by (with_reducible repeat (first | refine blk_drewN ?_ _ | refine blk_drew ?_ | refine blk_alloc ?_ _)); exact BK192.out)) : gb193 ≠ gb192))
     clear BK192
     clear HB
     have BK192 := n0_
     have HB := n1_
     have BK193 := n2_
     have GW193 := n3_
     have GE193 := n4_
     have NB192_193 := n5_
     have NB193_192 := n6_
     clear n0_ n1_ n2_ n3_ n4_ n5_ n6_
     clear hb hbox hg
     refine hK.out _ _ ⟨((HB.out.cell (World.block_lt_of_cell? w _ hw190_0)).trans hw190_0), ((HB.out.cell (World.block_lt_of_cell? w _ hw190_1)).trans hw190_1), ((HB.out.cell (World.block_lt_of_cell? w _ hw190_2)).trans hw190_2), ((HB.out.cell (World.block_lt_of_cell? w _ hw191_0)).trans hw191_0), ((HB.out.cell (World.block_lt_of_cell? w _ hw191_1)).trans hw191_1), ((HB.out.cell (World.block_lt_of_cell? w _ hw191_2)).trans hw191_2)⟩ (fun hHeld => ?_)
     clear hK K
     refine norm_ (a' := ?_) ?_ ?_
     rotate_left
     ·show Act.put _ (some 8) _ = _
      simp only [Act.put, List.setIfInBounds_toArray, List.set_cons_zero, List.set_cons_succ, i64_w, i32_w]
      rfl
     exact norm_ (by simp only [putAll, Act.put, List.setIfInBounds_toArray, List.set_cons_zero, List.set_cons_succ]) (hCont (gb192, gb193) _ ⟨hHeld, (by (with_reducible repeat (first | refine blk_drewN ?_ _ | refine blk_drew ?_ | refine blk_alloc ?_ _)); exact BK192.out), (by (with_reducible repeat (first | refine blk_drewN ?_ _ | refine blk_drew ?_ | refine blk_alloc ?_ _)); exact BK193.out), GW192.out, GE192.out, NB193_192.out, NB192_193.out, GW193.out, GE193.out, (by repeat (first | (with_reducible first | exact HB.out | apply below_alloc | apply pw_below_drewN | apply below_drew1 | refine below_set ?_ GE192.out | refine below_set ?_ GE193.out) | exact HB.out))⟩)
    ·skip
     refine box_step ?hg (N := 8) ?hd (cs := #[.int .i64 0, .int .i64 0, .int .i64 0]) (t := 60) ?hr ?_; (case hd => rfl); (case hg => rfl); (case hr => first | (go_simp; done) | (go_simp; rfl))
     intro gb193 hg w24 hbox hb
     have n0_ := Aside0.mk (below_step (by repeat (first | (with_reducible first | exact HB.out | apply below_alloc | apply pw_below_drewN | apply below_drew1) | exact HB.out)) hb)
     have n1_ := Aside0.mk (hbox)
     have n2_ := Aside0.mk ((by rw [hg]; exact (below_size (by repeat (first | (with_reducible first | exact HB.out | apply below_alloc | apply pw_below_drewN | apply below_drew1) | exact HB.out))) : w.heap.size ≤ gb193))
     have n3_ := Aside0.mk ((by rw [hg]; exact (below_size (by repeat (first | (with_reducible first | exact HB.out | apply below_alloc | apply pw_below_drewN | apply below_drew1) | exact HB.out))) : w.heap.size ≤ gb193))
     clear HB
     have HB := n0_
     have BK193 := n1_
     have GW193 := n2_
     have GE193 := n3_
     clear n0_ n1_ n2_ n3_
     clear hb hbox hg
     refine hK.out _ _ ⟨((HB.out.cell (World.block_lt_of_cell? w _ hw190_0)).trans hw190_0), ((HB.out.cell (World.block_lt_of_cell? w _ hw190_1)).trans hw190_1), ((HB.out.cell (World.block_lt_of_cell? w _ hw190_2)).trans hw190_2), ((HB.out.cell (World.block_lt_of_cell? w _ hw191_0)).trans hw191_0), ((HB.out.cell (World.block_lt_of_cell? w _ hw191_1)).trans hw191_1), ((HB.out.cell (World.block_lt_of_cell? w _ hw191_2)).trans hw191_2)⟩ (fun hHeld => ?_)
     clear hK K
     refine norm_ (a' := ?_) ?_ ?_
     rotate_left
     ·show Act.put _ (some 8) _ = _
      simp only [Act.put, List.setIfInBounds_toArray, List.set_cons_zero, List.set_cons_succ, i64_w, i32_w]
      rfl
     refine one_ (i := 8) (N := some 7) #[true, true, true, true, true, true, true, true, true, true, false, false] rfl rfl (one_of HT_.out (by kernel_rfl)) (by decide) (fun K hK => ?_)
     refine box_step ?hg (N := 7) ?hd (cs := #[.int .i64 0, .int .i64 0, .int .i64 0]) (t := 60) ?hr ?_; (case hd => rfl); (case hg => rfl); (case hr => first | (go_simp; done) | (go_simp; rfl))
     intro gb192 hg w25 hbox hb
     have n0_ := Aside0.mk (blk_below (g := gb193) (o := .cells #[.int .i64 0, .int .i64 0, .int .i64 0] 60 (0, 0)) (by (with_reducible repeat (first | refine blk_drewN ?_ _ | refine blk_drew ?_ | refine blk_alloc ?_ _)); exact BK193.out) hb)
     have n1_ := Aside0.mk (below_step (by repeat (first | (with_reducible first | exact HB.out | apply below_alloc | apply pw_below_drewN | apply below_drew1 | refine below_set ?_ GE193.out) | exact HB.out)) hb)
     have n2_ := Aside0.mk (hbox)
     have n3_ := Aside0.mk ((by rw [hg]; exact (below_size (by repeat (first | (with_reducible first | exact HB.out | apply below_alloc | apply pw_below_drewN | apply below_drew1 | refine below_set ?_ GE193.out) | exact HB.out))) : w.heap.size ≤ gb192))
     have n4_ := Aside0.mk ((by rw [hg]; exact (below_size (by repeat (first | (with_reducible first | exact HB.out | apply below_alloc | apply pw_below_drewN | apply below_drew1 | refine below_set ?_ GE193.out) | exact HB.out))) : w.heap.size ≤ gb192))
     have n5_ := Aside0.mk ((by rw [hg]; exact Nat.ne_of_lt (blk_lt (g := gb193) (o := .cells #[.int .i64 0, .int .i64 0, .int .i64 0] 60 (0, 0)) (by (with_reducible repeat (first | refine blk_drewN ?_ _ | refine blk_drew ?_ | refine blk_alloc ?_ _)); exact BK193.out)) : gb193 ≠ gb192))
     have n6_ := Aside0.mk ((by rw [hg]; exact Nat.ne_of_gt (blk_lt (g := gb193) (o := .cells #[.int .i64 0, .int .i64 0, .int .i64 0] 60 (0, 0)) (by (with_reducible repeat (first | refine blk_drewN ?_ _ | refine blk_drew ?_ | refine blk_alloc ?_ _)); exact BK193.out)) : gb192 ≠ gb193))
     clear BK193
     clear HB
     have BK193 := n0_
     have HB := n1_
     have BK192 := n2_
     have GW192 := n3_
     have GE192 := n4_
     have NB193_192 := n5_
     have NB192_193 := n6_
     clear n0_ n1_ n2_ n3_ n4_ n5_ n6_
     clear hb hbox hg
     refine hK.out _ _ ⟨((HB.out.cell (World.block_lt_of_cell? w _ hw190_0)).trans hw190_0), ((HB.out.cell (World.block_lt_of_cell? w _ hw190_1)).trans hw190_1), ((HB.out.cell (World.block_lt_of_cell? w _ hw190_2)).trans hw190_2), ((HB.out.cell (World.block_lt_of_cell? w _ hw191_0)).trans hw191_0), ((HB.out.cell (World.block_lt_of_cell? w _ hw191_1)).trans hw191_1), ((HB.out.cell (World.block_lt_of_cell? w _ hw191_2)).trans hw191_2)⟩ (fun hHeld => ?_)
     clear hK K
     refine norm_ (a' := ?_) ?_ ?_
     rotate_left
     ·show Act.put _ (some 7) _ = _
      simp only [Act.put, List.setIfInBounds_toArray, List.set_cons_zero, List.set_cons_succ, i64_w, i32_w]
      rfl
     exact norm_ (by simp only [putAll, Act.put, List.setIfInBounds_toArray, List.set_cons_zero, List.set_cons_succ]) (hCont (gb192, gb193) _ ⟨hHeld, (by (with_reducible repeat (first | refine blk_drewN ?_ _ | refine blk_drew ?_ | refine blk_alloc ?_ _)); exact BK192.out), (by (with_reducible repeat (first | refine blk_drewN ?_ _ | refine blk_drew ?_ | refine blk_alloc ?_ _)); exact BK193.out), GW192.out, GE192.out, NB193_192.out, NB192_193.out, GW193.out, GE193.out, (by repeat (first | (with_reducible first | exact HB.out | apply below_alloc | apply pw_below_drewN | apply below_drew1 | refine below_set ?_ GE193.out | refine below_set ?_ GE192.out) | exact HB.out))⟩)
   rintro ⟨gb192, gb193⟩ w26 ⟨hS_, h0_, h1_, h2_, h3_, h4_, h5_, h6_, h7_, h8_⟩
   have n0_ : Aside0 (w26.heap[gb192]? = some (.cells #[.int .i64 0, .int .i64 0, .int .i64 0] 60 (0, 0))) := ⟨h0_⟩
   have n1_ : Aside0 (w26.heap[gb193]? = some (.cells #[.int .i64 0, .int .i64 0, .int .i64 0] 60 (0, 0))) := ⟨h1_⟩
   have n2_ : Aside0 (w.heap.size ≤ gb192) := ⟨h2_⟩
   have n3_ : Aside0 (w.heap.size ≤ gb192) := ⟨h3_⟩
   have n4_ : Aside0 (gb193 ≠ gb192) := ⟨h4_⟩
   have n5_ : Aside0 (gb192 ≠ gb193) := ⟨h5_⟩
   have n6_ : Aside0 (w.heap.size ≤ gb193) := ⟨h6_⟩
   have n7_ : Aside0 (w.heap.size ≤ gb193) := ⟨h7_⟩
   have n8_ : Aside0 (Below w.heap.size w w26) := ⟨h8_⟩
   clear HB
   clear h0_ h1_ h2_ h3_ h4_ h5_ h6_ h7_ h8_
   have BK192 := n0_
   have BK193 := n1_
   have GW192 := n2_
   have GE192 := n3_
   have NB193_192 := n4_
   have NB192_193 := n5_
   have GW193 := n6_
   have GE193 := n7_
   have HB := n8_
   clear n0_ n1_ n2_ n3_ n4_ n5_ n6_ n7_ n8_
   have hHeld : w26.cell? (ad190.add ((a1).toNat * 3)) = some (.int .i64 ((rd_T60 l0 a1).f0)) ∧ w26.cell? ⟨(ad190.add ((a1).toNat * 3)).block, (ad190.add ((a1).toNat * 3)).off + 1, none⟩ = some (.int .i64 ((rd_T60 l0 a1).f1)) ∧ w26.cell? ⟨(ad190.add ((a1).toNat * 3)).block, (ad190.add ((a1).toNat * 3)).off + 2, none⟩ = some (.int .i64 ((rd_T60 l0 a1).f2)) ∧ w26.cell? (ad190.add ((a2).toNat * 3)) = some (.int .i64 ((rd_T60 l0 a2).f0)) ∧ w26.cell? ⟨(ad190.add ((a2).toNat * 3)).block, (ad190.add ((a2).toNat * 3)).off + 1, none⟩ = some (.int .i64 ((rd_T60 l0 a2).f1)) ∧ w26.cell? ⟨(ad190.add ((a2).toNat * 3)).block, (ad190.add ((a2).toNat * 3)).off + 2, none⟩ = some (.int .i64 ((rd_T60 l0 a2).f2)) := hS_
   refine norm_ (a' := ?_) ?_ ?_
   rotate_left
   ·simp only [putAll, Act.put, List.setIfInBounds_toArray, List.set_cons_zero, List.set_cons_succ]
    rfl
   refine one_ (i := 10) (N := none) #[true, true, true, true, true, true, true, true, true, true, true, false] rfl rfl (one_of HT_.out (by kernel_rfl)) (by decide) (fun K hK => ?_)
   have hs27 : w26.cell? ⟨gb192, 0, none⟩ = some (.int .i64 0) := (blk_cell BK192.out 0).trans (by rfl)
   have hfs27 := blk_frozen BK192.out 0
   have hns27_1 := NB193_192.out
   have hms27_1 := NB192_193.out
   have hs28 : w26.cell? ⟨gb192, 1, none⟩ = some (.int .i64 0) := (blk_cell BK192.out 1).trans (by rfl)
   have hfs28 := blk_frozen BK192.out 1
   have hns28_1 := NB193_192.out
   have hms28_1 := NB192_193.out
   have hs29 : w26.cell? ⟨gb192, 2, none⟩ = some (.int .i64 0) := (blk_cell BK192.out 2).trans (by rfl)
   have hfs29 := blk_frozen BK192.out 2
   have hns29_1 := NB193_192.out
   have hms29_1 := NB192_193.out
   refine skip_ (w1 := ?_) (by rfl) rfl ?_ ?_; rotate_left; go_simp; rfl
   have hz0_ : ad190.block ≠ gb192 := Nat.ne_of_lt (Nat.lt_of_lt_of_le (by have := World.block_lt_of_cell? _ _ hw190_1; first | rwa [add_block] at this | exact this) GW192.out)
   refine hK.out _ _ ⟨((cell_far (p := ⟨gb192, _, none⟩) (by first | exact hz0_ | (rw [add_block]; exact hz0_)) _).trans (((cell_far (p := ⟨gb192, _, none⟩) (by first | exact hz0_ | (rw [add_block]; exact hz0_)) _).trans (((cell_far (p := ⟨gb192, _, none⟩) (by first | exact hz0_ | (rw [add_block]; exact hz0_)) _).trans (hHeld.1)))))), ((cell_far (p := ⟨gb192, _, none⟩) (by first | exact hz0_ | (rw [add_block]; exact hz0_)) _).trans (((cell_far (p := ⟨gb192, _, none⟩) (by first | exact hz0_ | (rw [add_block]; exact hz0_)) _).trans (((cell_far (p := ⟨gb192, _, none⟩) (by first | exact hz0_ | (rw [add_block]; exact hz0_)) _).trans (hHeld.2.1)))))), ((cell_far (p := ⟨gb192, _, none⟩) (by first | exact hz0_ | (rw [add_block]; exact hz0_)) _).trans (((cell_far (p := ⟨gb192, _, none⟩) (by first | exact hz0_ | (rw [add_block]; exact hz0_)) _).trans (((cell_far (p := ⟨gb192, _, none⟩) (by first | exact hz0_ | (rw [add_block]; exact hz0_)) _).trans (hHeld.2.2.1)))))), ((cell_far (p := ⟨gb192, _, none⟩) (by first | exact hz0_ | (rw [add_block]; exact hz0_)) _).trans (((cell_far (p := ⟨gb192, _, none⟩) (by first | exact hz0_ | (rw [add_block]; exact hz0_)) _).trans (((cell_far (p := ⟨gb192, _, none⟩) (by first | exact hz0_ | (rw [add_block]; exact hz0_)) _).trans (hHeld.2.2.2.1)))))), ((cell_far (p := ⟨gb192, _, none⟩) (by first | exact hz0_ | (rw [add_block]; exact hz0_)) _).trans (((cell_far (p := ⟨gb192, _, none⟩) (by first | exact hz0_ | (rw [add_block]; exact hz0_)) _).trans (((cell_far (p := ⟨gb192, _, none⟩) (by first | exact hz0_ | (rw [add_block]; exact hz0_)) _).trans (hHeld.2.2.2.2.1)))))), ((cell_far (p := ⟨gb192, _, none⟩) (by first | exact hz0_ | (rw [add_block]; exact hz0_)) _).trans (((cell_far (p := ⟨gb192, _, none⟩) (by first | exact hz0_ | (rw [add_block]; exact hz0_)) _).trans (((cell_far (p := ⟨gb192, _, none⟩) (by first | exact hz0_ | (rw [add_block]; exact hz0_)) _).trans (hHeld.2.2.2.2.2))))))⟩ (fun hHeld => ?_)
   clear hK K
   refine one_ (i := 11) (N := none) #[true, true, true, true, true, true, true, true, true, true, true, true] rfl rfl (one_of HT_.out (by kernel_rfl)) (by decide) (fun K hK => ?_)
   have hs30 : w26.cell? ⟨gb193, 0, none⟩ = some (.int .i64 0) := (blk_cell BK193.out 0).trans (by rfl)
   have hfs30 := blk_frozen BK193.out 0
   have hns30_0 := NB192_193.out
   have hms30_0 := NB193_192.out
   have hs31 : w26.cell? ⟨gb193, 1, none⟩ = some (.int .i64 0) := (blk_cell BK193.out 1).trans (by rfl)
   have hfs31 := blk_frozen BK193.out 1
   have hns31_0 := NB192_193.out
   have hms31_0 := NB193_192.out
   have hs32 : w26.cell? ⟨gb193, 2, none⟩ = some (.int .i64 0) := (blk_cell BK193.out 2).trans (by rfl)
   have hfs32 := blk_frozen BK193.out 2
   have hns32_0 := NB192_193.out
   have hms32_0 := NB193_192.out
   refine skip_ (w1 := ?_) (by rfl) rfl ?_ ?_; rotate_left; go_simp; rfl
   have hz0_ : ad190.block ≠ gb193 := Nat.ne_of_lt (Nat.lt_of_lt_of_le (by have := World.block_lt_of_cell? _ _ hw191_0; first | rwa [add_block] at this | exact this) GW193.out)
   refine hK.out _ _ ⟨((cell_far (p := ⟨gb193, _, none⟩) (by first | exact hz0_ | (rw [add_block]; exact hz0_)) _).trans (((cell_far (p := ⟨gb193, _, none⟩) (by first | exact hz0_ | (rw [add_block]; exact hz0_)) _).trans (((cell_far (p := ⟨gb193, _, none⟩) (by first | exact hz0_ | (rw [add_block]; exact hz0_)) _).trans (hHeld.1)))))), ((cell_far (p := ⟨gb193, _, none⟩) (by first | exact hz0_ | (rw [add_block]; exact hz0_)) _).trans (((cell_far (p := ⟨gb193, _, none⟩) (by first | exact hz0_ | (rw [add_block]; exact hz0_)) _).trans (((cell_far (p := ⟨gb193, _, none⟩) (by first | exact hz0_ | (rw [add_block]; exact hz0_)) _).trans (hHeld.2.1)))))), ((cell_far (p := ⟨gb193, _, none⟩) (by first | exact hz0_ | (rw [add_block]; exact hz0_)) _).trans (((cell_far (p := ⟨gb193, _, none⟩) (by first | exact hz0_ | (rw [add_block]; exact hz0_)) _).trans (((cell_far (p := ⟨gb193, _, none⟩) (by first | exact hz0_ | (rw [add_block]; exact hz0_)) _).trans (hHeld.2.2.1)))))), ((cell_far (p := ⟨gb193, _, none⟩) (by first | exact hz0_ | (rw [add_block]; exact hz0_)) _).trans (((cell_far (p := ⟨gb193, _, none⟩) (by first | exact hz0_ | (rw [add_block]; exact hz0_)) _).trans (((cell_far (p := ⟨gb193, _, none⟩) (by first | exact hz0_ | (rw [add_block]; exact hz0_)) _).trans (hHeld.2.2.2.1)))))), ((cell_far (p := ⟨gb193, _, none⟩) (by first | exact hz0_ | (rw [add_block]; exact hz0_)) _).trans (((cell_far (p := ⟨gb193, _, none⟩) (by first | exact hz0_ | (rw [add_block]; exact hz0_)) _).trans (((cell_far (p := ⟨gb193, _, none⟩) (by first | exact hz0_ | (rw [add_block]; exact hz0_)) _).trans (hHeld.2.2.2.2.1)))))), ((cell_far (p := ⟨gb193, _, none⟩) (by first | exact hz0_ | (rw [add_block]; exact hz0_)) _).trans (((cell_far (p := ⟨gb193, _, none⟩) (by first | exact hz0_ | (rw [add_block]; exact hz0_)) _).trans (((cell_far (p := ⟨gb193, _, none⟩) (by first | exact hz0_ | (rw [add_block]; exact hz0_)) _).trans (hHeld.2.2.2.2.2))))))⟩ (fun hHeld => ?_)
   clear hK K
   refine done_ (done_of HT_.out (by kernel_rfl)) ?_
   have hnb33 := NB192_193.out
   have hnc33 := NB193_192.out
   have hcz34_0 : w26.cell? ⟨gb192, 0, none⟩ = some (.int .i64 0) := (blk_cell BK192.out 0).trans (by rfl)
   have hcz34_1 : w26.cell? ⟨gb192, 1, none⟩ = some (.int .i64 0) := (blk_cell BK192.out 1).trans (by rfl)
   have hcz34_2 : w26.cell? ⟨gb192, 2, none⟩ = some (.int .i64 0) := (blk_cell BK192.out 2).trans (by rfl)
   have hfz34_0 := blk_frozen BK192.out 0
   have hfz34_1 := blk_frozen BK192.out 1
   have hfz34_2 := blk_frozen BK192.out 2
   have hcz35_0 : w26.cell? ⟨gb193, 0, none⟩ = some (.int .i64 0) := (blk_cell BK193.out 0).trans (by rfl)
   have hcz35_1 : w26.cell? ⟨gb193, 1, none⟩ = some (.int .i64 0) := (blk_cell BK193.out 1).trans (by rfl)
   have hcz35_2 : w26.cell? ⟨gb193, 2, none⟩ = some (.int .i64 0) := (blk_cell BK193.out 2).trans (by rfl)
   have hfz35_0 := blk_frozen BK193.out 0
   have hfz35_1 := blk_frozen BK193.out 1
   have hfz35_2 := blk_frozen BK193.out 2
   try go_wp2
   go_ret
   exact ⟨by first | rfl | (simp [errW_none, errW_some] <;> rfl) | (simp [*, errW_none, errW_some] <;> rfl), by repeat (first | (with_reducible first | exact HB.out | apply below_alloc | apply pw_below_drewN | apply below_drew1 | refine below_set ?_ GE192.out | refine below_set ?_ GE193.out) | exact HB.out)⟩
 ·rw [if_neg c8] at H
  have c8b0 : (((rd_T60 l0 a1).f2) == ((rd_T60 l0 a2).f2)) = false := beq_eq_false_iff_ne.mpr c8
  have c8b1 : (((rd_T60 l0 a1).f2) != ((rd_T60 l0 a2).f2)) = true := bne_iff_ne.mpr c8
  obtain rfl := Option.some.inj H
  go_enter Try.func40, Try.ntmps40
  try go_wp2
  have n0_ := Aside0.mk (below_drew1 HB.out)
  clear HB
  have HB := n0_
  clear n0_
  have p190 : 0 ≤ (a1 : Int) := of_decide_eq_true (by first | (with_reducible assumption) | assumption)
  have q190 : a1 < (l0.length : Int) := of_decide_eq_true (by first | (with_reducible assumption) | assumption)
  obtain ⟨ad190, e190, hx190_0, hx190_1, hx190_2⟩ := at_T60 HR0.out a1 p190 q190
  have hw190_2 := hx190_2
  have hw190_1 := hx190_1
  have hw190_0 := hx190_0
  cases e190
  replace hx190_0 := (HB.out.cell (World.block_lt_of_cell? w _ hx190_0)).trans hx190_0
  replace hx190_1 := (HB.out.cell (World.block_lt_of_cell? w _ hx190_1)).trans hx190_1
  replace hx190_2 := (HB.out.cell (World.block_lt_of_cell? w _ hx190_2)).trans hx190_2
  replace p190 := eq_true p190
  replace q190 := eq_true q190
  have p191 : 0 ≤ (a2 : Int) := of_decide_eq_true (by first | (with_reducible assumption) | assumption)
  have q191 : a2 < (l0.length : Int) := of_decide_eq_true (by first | (with_reducible assumption) | assumption)
  obtain ⟨ad191, e191, hx191_0, hx191_1, hx191_2⟩ := at_T60 HR0.out a2 p191 q191
  have hw191_2 := hx191_2
  have hw191_1 := hx191_1
  have hw191_0 := hx191_0
  obtain rfl : ad190 = ad191 := (by injection e191)
  replace hx191_0 := (HB.out.cell (World.block_lt_of_cell? w _ hx191_0)).trans hx191_0
  replace hx191_1 := (HB.out.cell (World.block_lt_of_cell? w _ hx191_1)).trans hx191_1
  replace hx191_2 := (HB.out.cell (World.block_lt_of_cell? w _ hx191_2)).trans hx191_2
  replace p191 := eq_true p191
  replace q191 := eq_true q191
  refine start_ (n := 12) (S := fun w' => w'.cell? (ad190.add ((a1).toNat * 3)) = some (.int .i64 ((rd_T60 l0 a1).f0)) ∧ w'.cell? ⟨(ad190.add ((a1).toNat * 3)).block, (ad190.add ((a1).toNat * 3)).off + 1, none⟩ = some (.int .i64 ((rd_T60 l0 a1).f1)) ∧ w'.cell? ⟨(ad190.add ((a1).toNat * 3)).block, (ad190.add ((a1).toNat * 3)).off + 2, none⟩ = some (.int .i64 ((rd_T60 l0 a1).f2)) ∧ w'.cell? (ad190.add ((a2).toNat * 3)) = some (.int .i64 ((rd_T60 l0 a2).f0)) ∧ w'.cell? ⟨(ad190.add ((a2).toNat * 3)).block, (ad190.add ((a2).toNat * 3)).off + 1, none⟩ = some (.int .i64 ((rd_T60 l0 a2).f1)) ∧ w'.cell? ⟨(ad190.add ((a2).toNat * 3)).block, (ad190.add ((a2).toNat * 3)).off + 2, none⟩ = some (.int .i64 ((rd_T60 l0 a2).f2))) (ds := []) #[false, false, false, false, false, false, false, false, false, false, false, false] (by kernel_rfl) rfl rfl ⟨((HB.out.cell (World.block_lt_of_cell? w _ hw190_0)).trans hw190_0), ((HB.out.cell (World.block_lt_of_cell? w _ hw190_1)).trans hw190_1), ((HB.out.cell (World.block_lt_of_cell? w _ hw190_2)).trans hw190_2), ((HB.out.cell (World.block_lt_of_cell? w _ hw191_0)).trans hw191_0), ((HB.out.cell (World.block_lt_of_cell? w _ hw191_1)).trans hw191_1), ((HB.out.cell (World.block_lt_of_cell? w _ hw191_2)).trans hw191_2)⟩ (fun hHeld => ?_); refine with_tabW titheref10_ahead.tab1 titheref10_ahead.bits1 (fun HT_ HW_ => ?_)
  generalize w.drew = w36 at HB hx190_0 hx190_1 hx190_2 hx191_0 hx191_1 hx191_2 hHeld ⊢
  refine pure_ (i := 0) (N := some 9) (v := ?_) (a' := ?_) #[true, false, false, false, false, false, false, false, false, false, false, false] rfl rfl (any_of HT_.out (by kernel_rfl)) (fun _ _ _ h => h) (Or.inl ⟨by rfl, ?_⟩) ?_ ?_; rotate_left; intro w'; go_simp; with_reducible rfl; rotate_left; simp only [Act.put, List.setIfInBounds_toArray, List.set_cons_zero, List.set_cons_succ, i64_w, i32_w]; rfl
  refine pure_ (i := 1) (N := some 10) (v := ?_) (a' := ?_) #[true, true, false, false, false, false, false, false, false, false, false, false] rfl rfl (any_of HT_.out (by kernel_rfl)) (fun _ _ _ h => h) (Or.inl ⟨by rfl, ?_⟩) ?_ ?_; rotate_left; intro w'; go_simp; with_reducible rfl; rotate_left; simp only [Act.put, List.setIfInBounds_toArray, List.set_cons_zero, List.set_cons_succ, i64_w, i32_w]; rfl
  refine pure_ (i := 2) (N := some 11) (v := ?_) (a' := ?_) #[true, true, true, false, false, false, false, false, false, false, false, false] rfl rfl (any_of HT_.out (by kernel_rfl)) (fun _ _ _ h => h) (Or.inl ⟨by rfl, ?_⟩) ?_ ?_; rotate_left; intro w'; go_simp; with_reducible rfl; rotate_left; simp only [Act.put, List.setIfInBounds_toArray, List.set_cons_zero, List.set_cons_succ, i64_w, i32_w]; rfl
  refine pure_ (i := 4) (N := some 13) (v := ?_) (a' := ?_) #[true, true, true, false, true, false, false, false, false, false, false, false] rfl rfl (any_of HT_.out (by kernel_rfl)) (fun _ _ _ h => h) (Or.inl ⟨by rfl, ?_⟩) ?_ ?_; rotate_left; intro w'; go_simp; with_reducible rfl; rotate_left; simp only [Act.put, List.setIfInBounds_toArray, List.set_cons_zero, List.set_cons_succ, i64_w, i32_w]; rfl
  refine pure_ (i := 5) (N := some 14) (v := ?_) (a' := ?_) #[true, true, true, false, true, true, false, false, false, false, false, false] rfl rfl (any_of HT_.out (by kernel_rfl)) (fun _ _ _ h => h) (Or.inl ⟨by rfl, ?_⟩) ?_ ?_; rotate_left; intro w'; go_simp; with_reducible rfl; rotate_left; simp only [Act.put, List.setIfInBounds_toArray, List.set_cons_zero, List.set_cons_succ, i64_w, i32_w]; rfl
  refine pure_ (i := 6) (N := some 15) (v := ?_) (a' := ?_) #[true, true, true, false, true, true, true, false, false, false, false, false] rfl rfl (any_of HT_.out (by kernel_rfl)) (fun _ _ _ h => h) (Or.inl ⟨by rfl, ?_⟩) ?_ ?_; rotate_left; intro w'; go_simp; with_reducible rfl; rotate_left; simp only [Act.put, List.setIfInBounds_toArray, List.set_cons_zero, List.set_cons_succ, i64_w, i32_w]; rfl
  refine take_ (i := 3) (N := some 12) (v := ?_) (a' := ?_) #[true, true, true, true, true, true, true, false, false, false, false, false] rfl rfl (take_ofW HT_.out HW_.out (by kernel_rfl)) (fun _ _ _ h => h) (Or.inl ⟨by rfl, ?_⟩) hHeld ?_ ?_
  rotate_left
  ·rintro w' ⟨s0, s1, s2, s3, s4, s5⟩
   go_simp
   with_reducible rfl
  rotate_left
  ·simp only [Act.put, List.setIfInBounds_toArray, List.set_cons_zero, List.set_cons_succ, i64_w, i32_w]
   rfl
  refine take_ (i := 7) (N := some 16) (v := ?_) (a' := ?_) #[true, true, true, true, true, true, true, true, false, false, false, false] rfl rfl (take_ofW HT_.out HW_.out (by kernel_rfl)) (fun _ _ _ h => h) (Or.inl ⟨by rfl, ?_⟩) hHeld ?_ ?_
  rotate_left
  ·rintro w' ⟨s0, s1, s2, s3, s4, s5⟩
   go_simp
   with_reducible rfl
  rotate_left
  ·simp only [Act.put, List.setIfInBounds_toArray, List.set_cons_zero, List.set_cons_succ, i64_w, i32_w]
   rfl
  refine join_ (σ := Nat × Nat) 2 #[true, true, true, true, true, true, true, true, true, true, false, false] (fun s_ => [(7, .pointer (some ⟨s_.1, 0, none⟩)), (8, .pointer (some ⟨s_.2, 0, none⟩))]) (fun s_ w' => (w'.cell? (ad190.add ((a1).toNat * 3)) = some (.int .i64 ((rd_T60 l0 a1).f0)) ∧ w'.cell? ⟨(ad190.add ((a1).toNat * 3)).block, (ad190.add ((a1).toNat * 3)).off + 1, none⟩ = some (.int .i64 ((rd_T60 l0 a1).f1)) ∧ w'.cell? ⟨(ad190.add ((a1).toNat * 3)).block, (ad190.add ((a1).toNat * 3)).off + 2, none⟩ = some (.int .i64 ((rd_T60 l0 a1).f2)) ∧ w'.cell? (ad190.add ((a2).toNat * 3)) = some (.int .i64 ((rd_T60 l0 a2).f0)) ∧ w'.cell? ⟨(ad190.add ((a2).toNat * 3)).block, (ad190.add ((a2).toNat * 3)).off + 1, none⟩ = some (.int .i64 ((rd_T60 l0 a2).f1)) ∧ w'.cell? ⟨(ad190.add ((a2).toNat * 3)).block, (ad190.add ((a2).toNat * 3)).off + 2, none⟩ = some (.int .i64 ((rd_T60 l0 a2).f2))) ∧ (w'.heap[s_.1]? = some (.cells #[.int .i64 0, .int .i64 0, .int .i64 0] 60 (0, 0))) ∧ (w'.heap[s_.2]? = some (.cells #[.int .i64 0, .int .i64 0, .int .i64 0] 60 (0, 0))) ∧ (w.heap.size ≤ s_.1) ∧ (w.heap.size ≤ s_.1) ∧ (s_.2 ≠ s_.1) ∧ (s_.1 ≠ s_.2) ∧ (w.heap.size ≤ s_.2) ∧ (w.heap.size ≤ s_.2) ∧ (Below w.heap.size w w')) ?_ ?_
  rotate_left
  ·intro hCont
   refine two_ (i := 8) (j := 9) (Ni := some 7) (Nj := some 8) #[true, true, true, true, true, true, true, true, true, false, false, false] #[true, true, true, true, true, true, true, true, false, true, false, false] rfl rfl rfl rfl (two_of HT_.out (by kernel_rfl)) (by decide) (by decide) (fun K hK => ?_) (fun K hK => ?_)
   ·skip
    refine box_step ?hg (N := 7) ?hd (cs := #[.int .i64 0, .int .i64 0, .int .i64 0]) (t := 60) ?hr ?_; (case hd => rfl); (case hg => rfl); (case hr => first | (go_simp; done) | (go_simp; rfl))
    intro gb192 hg w37 hbox hb
    have n0_ := Aside0.mk (below_step (by repeat (first | (with_reducible first | exact HB.out | apply below_alloc | apply pw_below_drewN | apply below_drew1) | exact HB.out)) hb)
    have n1_ := Aside0.mk (hbox)
    have n2_ := Aside0.mk ((by rw [hg]; exact (below_size (by repeat (first | (with_reducible first | exact HB.out | apply below_alloc | apply pw_below_drewN | apply below_drew1) | exact HB.out))) : w.heap.size ≤ gb192))
    have n3_ := Aside0.mk ((by rw [hg]; exact (below_size (by repeat (first | (with_reducible first | exact HB.out | apply below_alloc | apply pw_below_drewN | apply below_drew1) | exact HB.out))) : w.heap.size ≤ gb192))
    clear HB
    have HB := n0_
    have BK192 := n1_
    have GW192 := n2_
    have GE192 := n3_
    clear n0_ n1_ n2_ n3_
    clear hb hbox hg
    refine hK.out _ _ ⟨((HB.out.cell (World.block_lt_of_cell? w _ hw190_0)).trans hw190_0), ((HB.out.cell (World.block_lt_of_cell? w _ hw190_1)).trans hw190_1), ((HB.out.cell (World.block_lt_of_cell? w _ hw190_2)).trans hw190_2), ((HB.out.cell (World.block_lt_of_cell? w _ hw191_0)).trans hw191_0), ((HB.out.cell (World.block_lt_of_cell? w _ hw191_1)).trans hw191_1), ((HB.out.cell (World.block_lt_of_cell? w _ hw191_2)).trans hw191_2)⟩ (fun hHeld => ?_)
    clear hK K
    refine norm_ (a' := ?_) ?_ ?_
    rotate_left
    ·show Act.put _ (some 7) _ = _
     simp only [Act.put, List.setIfInBounds_toArray, List.set_cons_zero, List.set_cons_succ, i64_w, i32_w]
     rfl
    refine one_ (i := 9) (N := some 8) #[true, true, true, true, true, true, true, true, true, true, false, false] rfl rfl (one_of HT_.out (by kernel_rfl)) (by decide) (fun K hK => ?_)
    refine box_step ?hg (N := 8) ?hd (cs := #[.int .i64 0, .int .i64 0, .int .i64 0]) (t := 60) ?hr ?_; (case hd => rfl); (case hg => rfl); (case hr => first | (go_simp; done) | (go_simp; rfl))
    intro gb193 hg w38 hbox hb
    have n0_ := Aside0.mk (blk_below (g := gb192) (o := .cells #[.int .i64 0, .int .i64 0, .int .i64 0] 60 (0, 0)) (by (with_reducible repeat (first | refine blk_drewN ?_ _ | refine blk_drew ?_ | refine blk_alloc ?_ _)); exact BK192.out) hb)
    have n1_ := Aside0.mk (below_step (by repeat (first | (with_reducible first | exact HB.out | apply below_alloc | apply pw_below_drewN | apply below_drew1 | refine below_set ?_ GE192.out) | exact HB.out)) hb)
    have n2_ := Aside0.mk (hbox)
    have n3_ := Aside0.mk ((by rw [hg]; exact (below_size (by repeat (first | (with_reducible first | exact HB.out | apply below_alloc | apply pw_below_drewN | apply below_drew1 | refine below_set ?_ GE192.out) | exact HB.out))) : w.heap.size ≤ gb193))
    have n4_ := Aside0.mk ((by rw [hg]; exact (below_size (by repeat (first | (with_reducible first | exact HB.out | apply below_alloc | apply pw_below_drewN | apply below_drew1 | refine below_set ?_ GE192.out) | exact HB.out))) : w.heap.size ≤ gb193))
    have n5_ := Aside0.mk ((by rw [hg]; exact Nat.ne_of_lt (blk_lt (g := gb192) (o := .cells #[.int .i64 0, .int .i64 0, .int .i64 0] 60 (0, 0)) (by (with_reducible repeat (first | refine blk_drewN ?_ _ | refine blk_drew ?_ | refine blk_alloc ?_ _)); exact BK192.out)) : gb192 ≠ gb193))
    have n6_ := Aside0.mk ((by rw [hg]; exact Nat.ne_of_gt (blk_lt (g := gb192) (o := .cells #[.int .i64 0, .int .i64 0, .int .i64 0] 60 (0, 0)) (by (with_reducible repeat (first | refine blk_drewN ?_ _ | refine blk_drew ?_ | refine blk_alloc ?_ _)); exact BK192.out)) : gb193 ≠ gb192))
    clear BK192
    clear HB
    have BK192 := n0_
    have HB := n1_
    have BK193 := n2_
    have GW193 := n3_
    have GE193 := n4_
    have NB192_193 := n5_
    have NB193_192 := n6_
    clear n0_ n1_ n2_ n3_ n4_ n5_ n6_
    clear hb hbox hg
    refine hK.out _ _ ⟨((HB.out.cell (World.block_lt_of_cell? w _ hw190_0)).trans hw190_0), ((HB.out.cell (World.block_lt_of_cell? w _ hw190_1)).trans hw190_1), ((HB.out.cell (World.block_lt_of_cell? w _ hw190_2)).trans hw190_2), ((HB.out.cell (World.block_lt_of_cell? w _ hw191_0)).trans hw191_0), ((HB.out.cell (World.block_lt_of_cell? w _ hw191_1)).trans hw191_1), ((HB.out.cell (World.block_lt_of_cell? w _ hw191_2)).trans hw191_2)⟩ (fun hHeld => ?_)
    clear hK K
    refine norm_ (a' := ?_) ?_ ?_
    rotate_left
    ·show Act.put _ (some 8) _ = _
     simp only [Act.put, List.setIfInBounds_toArray, List.set_cons_zero, List.set_cons_succ, i64_w, i32_w]
     rfl
    exact norm_ (by simp only [putAll, Act.put, List.setIfInBounds_toArray, List.set_cons_zero, List.set_cons_succ]) (hCont (gb192, gb193) _ ⟨hHeld, (by (with_reducible repeat (first | refine blk_drewN ?_ _ | refine blk_drew ?_ | refine blk_alloc ?_ _)); exact BK192.out), (by (with_reducible repeat (first | refine blk_drewN ?_ _ | refine blk_drew ?_ | refine blk_alloc ?_ _)); exact BK193.out), GW192.out, GE192.out, NB193_192.out, NB192_193.out, GW193.out, GE193.out, (by repeat (first | (with_reducible first | exact HB.out | apply below_alloc | apply pw_below_drewN | apply below_drew1 | refine below_set ?_ GE192.out | refine below_set ?_ GE193.out) | exact HB.out))⟩)
   ·skip
    refine box_step ?hg (N := 8) ?hd (cs := #[.int .i64 0, .int .i64 0, .int .i64 0]) (t := 60) ?hr ?_; (case hd => rfl); (case hg => rfl); (case hr => first | (go_simp; done) | (go_simp; rfl))
    intro gb193 hg w37 hbox hb
    have n0_ := Aside0.mk (below_step (by repeat (first | (with_reducible first | exact HB.out | apply below_alloc | apply pw_below_drewN | apply below_drew1) | exact HB.out)) hb)
    have n1_ := Aside0.mk (hbox)
    have n2_ := Aside0.mk ((by rw [hg]; exact (below_size (by repeat (first | (with_reducible first | exact HB.out | apply below_alloc | apply pw_below_drewN | apply below_drew1) | exact HB.out))) : w.heap.size ≤ gb193))
    have n3_ := Aside0.mk ((by rw [hg]; exact (below_size (by repeat (first | (with_reducible first | exact HB.out | apply below_alloc | apply pw_below_drewN | apply below_drew1) | exact HB.out))) : w.heap.size ≤ gb193))
    clear HB
    have HB := n0_
    have BK193 := n1_
    have GW193 := n2_
    have GE193 := n3_
    clear n0_ n1_ n2_ n3_
    clear hb hbox hg
    refine hK.out _ _ ⟨((HB.out.cell (World.block_lt_of_cell? w _ hw190_0)).trans hw190_0), ((HB.out.cell (World.block_lt_of_cell? w _ hw190_1)).trans hw190_1), ((HB.out.cell (World.block_lt_of_cell? w _ hw190_2)).trans hw190_2), ((HB.out.cell (World.block_lt_of_cell? w _ hw191_0)).trans hw191_0), ((HB.out.cell (World.block_lt_of_cell? w _ hw191_1)).trans hw191_1), ((HB.out.cell (World.block_lt_of_cell? w _ hw191_2)).trans hw191_2)⟩ (fun hHeld => ?_)
    clear hK K
    refine norm_ (a' := ?_) ?_ ?_
    rotate_left
    ·show Act.put _ (some 8) _ = _
     simp only [Act.put, List.setIfInBounds_toArray, List.set_cons_zero, List.set_cons_succ, i64_w, i32_w]
     rfl
    refine one_ (i := 8) (N := some 7) #[true, true, true, true, true, true, true, true, true, true, false, false] rfl rfl (one_of HT_.out (by kernel_rfl)) (by decide) (fun K hK => ?_)
    refine box_step ?hg (N := 7) ?hd (cs := #[.int .i64 0, .int .i64 0, .int .i64 0]) (t := 60) ?hr ?_; (case hd => rfl); (case hg => rfl); (case hr => first | (go_simp; done) | (go_simp; rfl))
    intro gb192 hg w38 hbox hb
    have n0_ := Aside0.mk (blk_below (g := gb193) (o := .cells #[.int .i64 0, .int .i64 0, .int .i64 0] 60 (0, 0)) (by (with_reducible repeat (first | refine blk_drewN ?_ _ | refine blk_drew ?_ | refine blk_alloc ?_ _)); exact BK193.out) hb)
    have n1_ := Aside0.mk (below_step (by repeat (first | (with_reducible first | exact HB.out | apply below_alloc | apply pw_below_drewN | apply below_drew1 | refine below_set ?_ GE193.out) | exact HB.out)) hb)
    have n2_ := Aside0.mk (hbox)
    have n3_ := Aside0.mk ((by rw [hg]; exact (below_size (by repeat (first | (with_reducible first | exact HB.out | apply below_alloc | apply pw_below_drewN | apply below_drew1 | refine below_set ?_ GE193.out) | exact HB.out))) : w.heap.size ≤ gb192))
    have n4_ := Aside0.mk ((by rw [hg]; exact (below_size (by repeat (first | (with_reducible first | exact HB.out | apply below_alloc | apply pw_below_drewN | apply below_drew1 | refine below_set ?_ GE193.out) | exact HB.out))) : w.heap.size ≤ gb192))
    have n5_ := Aside0.mk ((by rw [hg]; exact Nat.ne_of_lt (blk_lt (g := gb193) (o := .cells #[.int .i64 0, .int .i64 0, .int .i64 0] 60 (0, 0)) (by (with_reducible repeat (first | refine blk_drewN ?_ _ | refine blk_drew ?_ | refine blk_alloc ?_ _)); exact BK193.out)) : gb193 ≠ gb192))
    have n6_ := Aside0.mk ((by rw [hg]; exact Nat.ne_of_gt (blk_lt (g := gb193) (o := .cells #[.int .i64 0, .int .i64 0, .int .i64 0] 60 (0, 0)) (by (with_reducible repeat (first | refine blk_drewN ?_ _ | refine blk_drew ?_ | refine blk_alloc ?_ _)); exact BK193.out)) : gb192 ≠ gb193))
    clear BK193
    clear HB
    have BK193 := n0_
    have HB := n1_
    have BK192 := n2_
    have GW192 := n3_
    have GE192 := n4_
    have NB193_192 := n5_
    have NB192_193 := n6_
    clear n0_ n1_ n2_ n3_ n4_ n5_ n6_
    clear hb hbox hg
    refine hK.out _ _ ⟨((HB.out.cell (World.block_lt_of_cell? w _ hw190_0)).trans hw190_0), ((HB.out.cell (World.block_lt_of_cell? w _ hw190_1)).trans hw190_1), ((HB.out.cell (World.block_lt_of_cell? w _ hw190_2)).trans hw190_2), ((HB.out.cell (World.block_lt_of_cell? w _ hw191_0)).trans hw191_0), ((HB.out.cell (World.block_lt_of_cell? w _ hw191_1)).trans hw191_1), ((HB.out.cell (World.block_lt_of_cell? w _ hw191_2)).trans hw191_2)⟩ (fun hHeld => ?_)
    clear hK K
    refine norm_ (a' := ?_) ?_ ?_
    rotate_left
    ·show Act.put _ (some 7) _ = _
     simp only [Act.put, List.setIfInBounds_toArray, List.set_cons_zero, List.set_cons_succ, i64_w, i32_w]
     rfl
    exact norm_ (by simp only [putAll, Act.put, List.setIfInBounds_toArray, List.set_cons_zero, List.set_cons_succ]) (hCont (gb192, gb193) _ ⟨hHeld, (by (with_reducible repeat (first | refine blk_drewN ?_ _ | refine blk_drew ?_ | refine blk_alloc ?_ _)); exact BK192.out), (by (with_reducible repeat (first | refine blk_drewN ?_ _ | refine blk_drew ?_ | refine blk_alloc ?_ _)); exact BK193.out), GW192.out, GE192.out, NB193_192.out, NB192_193.out, GW193.out, GE193.out, (by repeat (first | (with_reducible first | exact HB.out | apply below_alloc | apply pw_below_drewN | apply below_drew1 | refine below_set ?_ GE193.out | refine below_set ?_ GE192.out) | exact HB.out))⟩)
  rintro ⟨gb192, gb193⟩ w39 ⟨hS_, h0_, h1_, h2_, h3_, h4_, h5_, h6_, h7_, h8_⟩
  have n0_ : Aside0 (w39.heap[gb192]? = some (.cells #[.int .i64 0, .int .i64 0, .int .i64 0] 60 (0, 0))) := ⟨h0_⟩
  have n1_ : Aside0 (w39.heap[gb193]? = some (.cells #[.int .i64 0, .int .i64 0, .int .i64 0] 60 (0, 0))) := ⟨h1_⟩
  have n2_ : Aside0 (w.heap.size ≤ gb192) := ⟨h2_⟩
  have n3_ : Aside0 (w.heap.size ≤ gb192) := ⟨h3_⟩
  have n4_ : Aside0 (gb193 ≠ gb192) := ⟨h4_⟩
  have n5_ : Aside0 (gb192 ≠ gb193) := ⟨h5_⟩
  have n6_ : Aside0 (w.heap.size ≤ gb193) := ⟨h6_⟩
  have n7_ : Aside0 (w.heap.size ≤ gb193) := ⟨h7_⟩
  have n8_ : Aside0 (Below w.heap.size w w39) := ⟨h8_⟩
  clear HB
  clear h0_ h1_ h2_ h3_ h4_ h5_ h6_ h7_ h8_
  have BK192 := n0_
  have BK193 := n1_
  have GW192 := n2_
  have GE192 := n3_
  have NB193_192 := n4_
  have NB192_193 := n5_
  have GW193 := n6_
  have GE193 := n7_
  have HB := n8_
  clear n0_ n1_ n2_ n3_ n4_ n5_ n6_ n7_ n8_
  have hHeld : w39.cell? (ad190.add ((a1).toNat * 3)) = some (.int .i64 ((rd_T60 l0 a1).f0)) ∧ w39.cell? ⟨(ad190.add ((a1).toNat * 3)).block, (ad190.add ((a1).toNat * 3)).off + 1, none⟩ = some (.int .i64 ((rd_T60 l0 a1).f1)) ∧ w39.cell? ⟨(ad190.add ((a1).toNat * 3)).block, (ad190.add ((a1).toNat * 3)).off + 2, none⟩ = some (.int .i64 ((rd_T60 l0 a1).f2)) ∧ w39.cell? (ad190.add ((a2).toNat * 3)) = some (.int .i64 ((rd_T60 l0 a2).f0)) ∧ w39.cell? ⟨(ad190.add ((a2).toNat * 3)).block, (ad190.add ((a2).toNat * 3)).off + 1, none⟩ = some (.int .i64 ((rd_T60 l0 a2).f1)) ∧ w39.cell? ⟨(ad190.add ((a2).toNat * 3)).block, (ad190.add ((a2).toNat * 3)).off + 2, none⟩ = some (.int .i64 ((rd_T60 l0 a2).f2)) := hS_
  refine norm_ (a' := ?_) ?_ ?_
  rotate_left
  ·simp only [putAll, Act.put, List.setIfInBounds_toArray, List.set_cons_zero, List.set_cons_succ]
   rfl
  refine one_ (i := 10) (N := none) #[true, true, true, true, true, true, true, true, true, true, true, false] rfl rfl (one_of HT_.out (by kernel_rfl)) (by decide) (fun K hK => ?_)
  have hs40 : w39.cell? ⟨gb192, 0, none⟩ = some (.int .i64 0) := (blk_cell BK192.out 0).trans (by rfl)
  have hfs40 := blk_frozen BK192.out 0
  have hns40_1 := NB193_192.out
  have hms40_1 := NB192_193.out
  have hs41 : w39.cell? ⟨gb192, 1, none⟩ = some (.int .i64 0) := (blk_cell BK192.out 1).trans (by rfl)
  have hfs41 := blk_frozen BK192.out 1
  have hns41_1 := NB193_192.out
  have hms41_1 := NB192_193.out
  have hs42 : w39.cell? ⟨gb192, 2, none⟩ = some (.int .i64 0) := (blk_cell BK192.out 2).trans (by rfl)
  have hfs42 := blk_frozen BK192.out 2
  have hns42_1 := NB193_192.out
  have hms42_1 := NB192_193.out
  refine skip_ (w1 := ?_) (by rfl) rfl ?_ ?_; rotate_left; go_simp; rfl
  have hz0_ : ad190.block ≠ gb192 := Nat.ne_of_lt (Nat.lt_of_lt_of_le (by have := World.block_lt_of_cell? _ _ hw190_1; first | rwa [add_block] at this | exact this) GW192.out)
  refine hK.out _ _ ⟨((cell_far (p := ⟨gb192, _, none⟩) (by first | exact hz0_ | (rw [add_block]; exact hz0_)) _).trans (((cell_far (p := ⟨gb192, _, none⟩) (by first | exact hz0_ | (rw [add_block]; exact hz0_)) _).trans (((cell_far (p := ⟨gb192, _, none⟩) (by first | exact hz0_ | (rw [add_block]; exact hz0_)) _).trans (hHeld.1)))))), ((cell_far (p := ⟨gb192, _, none⟩) (by first | exact hz0_ | (rw [add_block]; exact hz0_)) _).trans (((cell_far (p := ⟨gb192, _, none⟩) (by first | exact hz0_ | (rw [add_block]; exact hz0_)) _).trans (((cell_far (p := ⟨gb192, _, none⟩) (by first | exact hz0_ | (rw [add_block]; exact hz0_)) _).trans (hHeld.2.1)))))), ((cell_far (p := ⟨gb192, _, none⟩) (by first | exact hz0_ | (rw [add_block]; exact hz0_)) _).trans (((cell_far (p := ⟨gb192, _, none⟩) (by first | exact hz0_ | (rw [add_block]; exact hz0_)) _).trans (((cell_far (p := ⟨gb192, _, none⟩) (by first | exact hz0_ | (rw [add_block]; exact hz0_)) _).trans (hHeld.2.2.1)))))), ((cell_far (p := ⟨gb192, _, none⟩) (by first | exact hz0_ | (rw [add_block]; exact hz0_)) _).trans (((cell_far (p := ⟨gb192, _, none⟩) (by first | exact hz0_ | (rw [add_block]; exact hz0_)) _).trans (((cell_far (p := ⟨gb192, _, none⟩) (by first | exact hz0_ | (rw [add_block]; exact hz0_)) _).trans (hHeld.2.2.2.1)))))), ((cell_far (p := ⟨gb192, _, none⟩) (by first | exact hz0_ | (rw [add_block]; exact hz0_)) _).trans (((cell_far (p := ⟨gb192, _, none⟩) (by first | exact hz0_ | (rw [add_block]; exact hz0_)) _).trans (((cell_far (p := ⟨gb192, _, none⟩) (by first | exact hz0_ | (rw [add_block]; exact hz0_)) _).trans (hHeld.2.2.2.2.1)))))), ((cell_far (p := ⟨gb192, _, none⟩) (by first | exact hz0_ | (rw [add_block]; exact hz0_)) _).trans (((cell_far (p := ⟨gb192, _, none⟩) (by first | exact hz0_ | (rw [add_block]; exact hz0_)) _).trans (((cell_far (p := ⟨gb192, _, none⟩) (by first | exact hz0_ | (rw [add_block]; exact hz0_)) _).trans (hHeld.2.2.2.2.2))))))⟩ (fun hHeld => ?_)
  clear hK K
  refine one_ (i := 11) (N := none) #[true, true, true, true, true, true, true, true, true, true, true, true] rfl rfl (one_of HT_.out (by kernel_rfl)) (by decide) (fun K hK => ?_)
  have hs43 : w39.cell? ⟨gb193, 0, none⟩ = some (.int .i64 0) := (blk_cell BK193.out 0).trans (by rfl)
  have hfs43 := blk_frozen BK193.out 0
  have hns43_0 := NB192_193.out
  have hms43_0 := NB193_192.out
  have hs44 : w39.cell? ⟨gb193, 1, none⟩ = some (.int .i64 0) := (blk_cell BK193.out 1).trans (by rfl)
  have hfs44 := blk_frozen BK193.out 1
  have hns44_0 := NB192_193.out
  have hms44_0 := NB193_192.out
  have hs45 : w39.cell? ⟨gb193, 2, none⟩ = some (.int .i64 0) := (blk_cell BK193.out 2).trans (by rfl)
  have hfs45 := blk_frozen BK193.out 2
  have hns45_0 := NB192_193.out
  have hms45_0 := NB193_192.out
  refine skip_ (w1 := ?_) (by rfl) rfl ?_ ?_; rotate_left; go_simp; rfl
  have hz0_ : ad190.block ≠ gb193 := Nat.ne_of_lt (Nat.lt_of_lt_of_le (by have := World.block_lt_of_cell? _ _ hw191_0; first | rwa [add_block] at this | exact this) GW193.out)
  refine hK.out _ _ ⟨((cell_far (p := ⟨gb193, _, none⟩) (by first | exact hz0_ | (rw [add_block]; exact hz0_)) _).trans (((cell_far (p := ⟨gb193, _, none⟩) (by first | exact hz0_ | (rw [add_block]; exact hz0_)) _).trans (((cell_far (p := ⟨gb193, _, none⟩) (by first | exact hz0_ | (rw [add_block]; exact hz0_)) _).trans (hHeld.1)))))), ((cell_far (p := ⟨gb193, _, none⟩) (by first | exact hz0_ | (rw [add_block]; exact hz0_)) _).trans (((cell_far (p := ⟨gb193, _, none⟩) (by first | exact hz0_ | (rw [add_block]; exact hz0_)) _).trans (((cell_far (p := ⟨gb193, _, none⟩) (by first | exact hz0_ | (rw [add_block]; exact hz0_)) _).trans (hHeld.2.1)))))), ((cell_far (p := ⟨gb193, _, none⟩) (by first | exact hz0_ | (rw [add_block]; exact hz0_)) _).trans (((cell_far (p := ⟨gb193, _, none⟩) (by first | exact hz0_ | (rw [add_block]; exact hz0_)) _).trans (((cell_far (p := ⟨gb193, _, none⟩) (by first | exact hz0_ | (rw [add_block]; exact hz0_)) _).trans (hHeld.2.2.1)))))), ((cell_far (p := ⟨gb193, _, none⟩) (by first | exact hz0_ | (rw [add_block]; exact hz0_)) _).trans (((cell_far (p := ⟨gb193, _, none⟩) (by first | exact hz0_ | (rw [add_block]; exact hz0_)) _).trans (((cell_far (p := ⟨gb193, _, none⟩) (by first | exact hz0_ | (rw [add_block]; exact hz0_)) _).trans (hHeld.2.2.2.1)))))), ((cell_far (p := ⟨gb193, _, none⟩) (by first | exact hz0_ | (rw [add_block]; exact hz0_)) _).trans (((cell_far (p := ⟨gb193, _, none⟩) (by first | exact hz0_ | (rw [add_block]; exact hz0_)) _).trans (((cell_far (p := ⟨gb193, _, none⟩) (by first | exact hz0_ | (rw [add_block]; exact hz0_)) _).trans (hHeld.2.2.2.2.1)))))), ((cell_far (p := ⟨gb193, _, none⟩) (by first | exact hz0_ | (rw [add_block]; exact hz0_)) _).trans (((cell_far (p := ⟨gb193, _, none⟩) (by first | exact hz0_ | (rw [add_block]; exact hz0_)) _).trans (((cell_far (p := ⟨gb193, _, none⟩) (by first | exact hz0_ | (rw [add_block]; exact hz0_)) _).trans (hHeld.2.2.2.2.2))))))⟩ (fun hHeld => ?_)
  clear hK K
  refine done_ (done_of HT_.out (by kernel_rfl)) ?_
  have hnb46 := NB192_193.out
  have hnc46 := NB193_192.out
  have hcz47_0 : w39.cell? ⟨gb192, 0, none⟩ = some (.int .i64 0) := (blk_cell BK192.out 0).trans (by rfl)
  have hcz47_1 : w39.cell? ⟨gb192, 1, none⟩ = some (.int .i64 0) := (blk_cell BK192.out 1).trans (by rfl)
  have hcz47_2 : w39.cell? ⟨gb192, 2, none⟩ = some (.int .i64 0) := (blk_cell BK192.out 2).trans (by rfl)
  have hfz47_0 := blk_frozen BK192.out 0
  have hfz47_1 := blk_frozen BK192.out 1
  have hfz47_2 := blk_frozen BK192.out 2
  have hcz48_0 : w39.cell? ⟨gb193, 0, none⟩ = some (.int .i64 0) := (blk_cell BK193.out 0).trans (by rfl)
  have hcz48_1 : w39.cell? ⟨gb193, 1, none⟩ = some (.int .i64 0) := (blk_cell BK193.out 1).trans (by rfl)
  have hcz48_2 : w39.cell? ⟨gb193, 2, none⟩ = some (.int .i64 0) := (blk_cell BK193.out 2).trans (by rfl)
  have hfz48_0 := blk_frozen BK193.out 0
  have hfz48_1 := blk_frozen BK193.out 1
  have hfz48_2 := blk_frozen BK193.out 2
  try go_wp2
  go_ret
  exact ⟨by first | rfl | (simp [errW_none, errW_some] <;> rfl) | (simp [*, errW_none, errW_some] <;> rfl), by repeat (first | (with_reducible first | exact HB.out | apply below_alloc | apply pw_below_drewN | apply below_drew1 | refine below_set ?_ GE192.out | refine below_set ?_ GE193.out) | exact HB.out)⟩

end Go.Proofs.YthhaikkicabplaaR.P
