/- What edf.order answers: by ends, then by slots; it turns nothing, it lays blocks. No conditions. -/
import Derived.Shelf.SlSortCmp.QuietGrown
import Derived.Test.YthhaikkicabplaaRPx3
import Derived.Test.YthhaikkicabplaaRPx3
namespace Go.Proofs.YthhaikkicabplaaR.P
open Go.Shelf Go.RowKit Go.Lib Go.Sort Go.Proofs.YthhaikkicabplaaRW.PrintWords Go.Proofs.YthhaikkicabplaaRW.PrintLast Go.Proofs.YthhaikkicabplaaRW.PrintMore
set_option linter.unusedVariables false
set_option linter.unusedSimpArgs false
/-- as cmp.Compare tells it -/
def ccmp (a b : Int) : Int := if a < b then -1 else if a > b then 1 else 0
def ocmp (e1 s1 e2 s2 : Int) : Int := if ccmp e1 e2 ≠ 0 then ccmp e1 e2 else ccmp s1 s2
theorem cmp_eq (a b : Int) : cmp_Compare_int.f a b = some (ccmp a b) := by
  unfold cmp_Compare_int.f cmp_isNaN_int.f ccmp
  simp
  split
  · rfl
  · split <;> rfl
theorem or_eq (a b : Int) : cmp_Or_int.f 4 [a, b] = some (if a ≠ 0 then a else b) := by
  unfold cmp_Or_int.f
  by_cases ha : a = 0
  · by_cases hb : b = 0
    · simp [cmp_Or_int.l0, ha, hb, wrap64, rd]
    · simp [cmp_Or_int.l0, ha, hb, wrap64, rd]
  · simp [cmp_Or_int.l0, ha, wrap64, rd]
def Gr (w W : World) : Prop := ∃ q os, W = grow (w.drewN q) os
theorem Gr.refl (w : World) : Gr w w := ⟨0, #[], by rw [grow_empty]; rfl⟩
theorem Gr.drewN {w W : World} (h : Gr w W) (n : Nat) : Gr w (W.drewN n) := by
  obtain ⟨q, os, rfl⟩ := h
  exact ⟨q + n, os, by show grow ((w.drewN q).drewN n) os = _; rw [World.drewN_drewN]⟩
theorem Gr.drew {w W : World} (h : Gr w W) : Gr w W.drew := h.drewN 1
theorem Gr.alloc {w W : World} (h : Gr w W) (o : Obj) : Gr w (W.alloc o) := by
  obtain ⟨q, os, rfl⟩ := h
  exact ⟨q, os ++ #[o], by rw [alloc_eq_grow, grow_grow]⟩
def Bx (g1 g2 : Nat) (a0 a1 a2 b0 b1 b2 : Int) (W : World) : Prop := W.cell? ⟨g1, 0, none⟩ = some (.int .i64 a0) ∧ W.cell? ⟨g1, 1, none⟩ = some (.int .i64 a1) ∧ W.cell? ⟨g1, 2, none⟩ = some (.int .i64 a2) ∧ W.cell? ⟨g2, 0, none⟩ = some (.int .i64 b0) ∧ W.cell? ⟨g2, 1, none⟩ = some (.int .i64 b1) ∧ W.cell? ⟨g2, 2, none⟩ = some (.int .i64 b2)
theorem cell_alloc_old {W : World} {a : Addr} {v : Value} (o : Obj) (h : W.cell? a = some v) : (W.alloc o).cell? a = some v := by
  have := World.block_lt_of_cell? W _ h
  rw [alloc_eq_grow, cell?_grow _ _ _ this]; exact h
theorem Bx.alloc {g1 g2 : Nat} {a0 a1 a2 b0 b1 b2 : Int} {W : World} (h : Bx g1 g2 a0 a1 a2 b0 b1 b2 W) (o : Obj) : Bx g1 g2 a0 a1 a2 b0 b1 b2 (W.alloc o) :=
  ⟨cell_alloc_old o h.1, cell_alloc_old o h.2.1, cell_alloc_old o h.2.2.1, cell_alloc_old o h.2.2.2.1, cell_alloc_old o h.2.2.2.2.1, cell_alloc_old o h.2.2.2.2.2⟩
set_option maxHeartbeats 8000000 in
set_option maxRecDepth 100000 in
theorem order_grown (a0_0 a0_1 a0_2 a1_0 a1_1 a1_2 : Int) (w : World) :
  Calls Try.prog 39 #[.agg #[.int .i64 a0_0, .int .i64 a0_1, .int .i64 a0_2], .agg #[.int .i64 a1_0, .int .i64 a1_1, .int .i64 a1_2]] w fun e w' => e = .returned (.int .i64 (ocmp a0_2 a0_0 a1_2 a1_0)) ∧ ∃ q os', w' = grow (w.drewN q) os' := by
 have hu59 := Try.underlying59
 have HG := Aside0.mk (Gr.refl w)
 have hor : cmp_Or_int.f 4 [ccmp a0_2 a1_2, ccmp a0_0 a1_0] = some (ocmp a0_2 a0_0 a1_2 a1_0) := or_eq _ _
 generalize ocmp a0_2 a0_0 a1_2 a1_0 = res at hor ⊢
 have HOR := Aside0.mk hor
 clear hor
 go_enter Try.func39, Try.ntmps39
 go_wp2_with fail
 generalize hw2 : ((w.alloc (Obj.cells #[Value.int IntKind.i64 a0_0, Value.int IntKind.i64 a0_1, Value.int IntKind.i64 a0_2] 59)).alloc (Obj.cells #[Value.int IntKind.i64 a1_0, Value.int IntKind.i64 a1_1, Value.int IntKind.i64 a1_2] 59)) = w2
 have HG2 := Aside0.mk (show Gr w w2 from by rw [← hw2]; exact (HG.out.alloc _).alloc _)
 have HX0 := Aside0.mk (show Bx w.heap.size (w.heap.size + 1) a0_0 a0_1 a0_2 a1_0 a1_1 a1_2 w2 from by
  rw [← hw2]
  have h3 := blk_new (w.alloc (Obj.cells #[Value.int IntKind.i64 a0_0, Value.int IntKind.i64 a0_1, Value.int IntKind.i64 a0_2] 59)) (Obj.cells #[Value.int IntKind.i64 a1_0, Value.int IntKind.i64 a1_1, Value.int IntKind.i64 a1_2] 59)
  rw [World.size_alloc] at h3
  exact ⟨cell_alloc_old _ ((blk_cell (blk_new _ _) 0).trans (by rfl)), cell_alloc_old _ ((blk_cell (blk_new _ _) 1).trans (by rfl)), cell_alloc_old _ ((blk_cell (blk_new _ _) 2).trans (by rfl)), (blk_cell h3 0).trans (by rfl), (blk_cell h3 1).trans (by rfl), (blk_cell h3 2).trans (by rfl)⟩)
 clear hw2 HG
 generalize w.heap.size = gb114 at *
 generalize gb114 + 1 = gb115 at *
 have HG := Aside0.mk HG2.out.drew
 have HX := Aside0.mk (show Bx _ _ _ _ _ _ _ _ w2.drew from HX0.out)
 clear HG2 HX0
 refine start_ (n := 13) (S := fun w' => w'.cell? ⟨gb114, 0, none⟩ = some (.int .i64 a0_0) ∧ w'.cell? ⟨gb114, 1, none⟩ = some (.int .i64 a0_1) ∧ w'.cell? ⟨gb114, 2, none⟩ = some (.int .i64 a0_2) ∧ w'.cell? ⟨gb115, 0, none⟩ = some (.int .i64 a1_0) ∧ w'.cell? ⟨gb115, 1, none⟩ = some (.int .i64 a1_1) ∧ w'.cell? ⟨gb115, 2, none⟩ = some (.int .i64 a1_2)) (ds := []) #[false, false, false, false, false, false, false, false, false, false, false, false, false] (by kernel_rfl) rfl rfl HX.out (fun hHeld => ?_); refine with_tabW edf_order.tab1 edf_order.bits1 (fun HT_ HW_ => ?_)
 generalize w2.drew = w8 at HG HX hHeld ⊢
 refine pure_ (i := 0) (N := some 5) (v := ?_) (a' := ?_) #[true, false, false, false, false, false, false, false, false, false, false, false, false] rfl rfl (any_of HT_.out (by kernel_rfl)) (fun _ _ _ h => h) (Or.inl ⟨by rfl, ?_⟩) ?_ ?_
 rotate_left
 ·intro w'
  go_simp
  with_reducible rfl
 rotate_left
 ·simp only [Act.put, List.setIfInBounds_toArray, List.set_cons_zero, List.set_cons_succ, i64_w, i32_w]
  rfl
 refine pure_ (i := 2) (N := some 7) (v := ?_) (a' := ?_) #[true, false, true, false, false, false, false, false, false, false, false, false, false] rfl rfl (any_of HT_.out (by kernel_rfl)) (fun _ _ _ h => h) (Or.inl ⟨by rfl, ?_⟩) ?_ ?_
 rotate_left
 ·intro w'
  go_simp
  with_reducible rfl
 rotate_left
 ·simp only [Act.put, List.setIfInBounds_toArray, List.set_cons_zero, List.set_cons_succ, i64_w, i32_w]
  rfl
 refine pure_ (i := 5) (N := some 10) (v := ?_) (a' := ?_) #[true, false, true, false, false, true, false, false, false, false, false, false, false] rfl rfl (any_of HT_.out (by kernel_rfl)) (fun _ _ _ h => h) (Or.inl ⟨by rfl, ?_⟩) ?_ ?_
 rotate_left
 ·intro w'
  go_simp
  with_reducible rfl
 rotate_left
 ·simp only [Act.put, List.setIfInBounds_toArray, List.set_cons_zero, List.set_cons_succ, i64_w, i32_w]
  rfl
 refine pure_ (i := 7) (N := some 12) (v := ?_) (a' := ?_) #[true, false, true, false, false, true, false, true, false, false, false, false, false] rfl rfl (any_of HT_.out (by kernel_rfl)) (fun _ _ _ h => h) (Or.inl ⟨by rfl, ?_⟩) ?_ ?_
 rotate_left
 ·intro w'
  go_simp
  with_reducible rfl
 rotate_left
 ·simp only [Act.put, List.setIfInBounds_toArray, List.set_cons_zero, List.set_cons_succ, i64_w, i32_w]
  rfl
 refine take_ (i := 1) (N := some 6) (v := ?_) (a' := ?_) #[true, true, true, false, false, true, false, true, false, false, false, false, false] rfl rfl (take_ofW HT_.out HW_.out (by kernel_rfl)) (fun _ _ _ h => h) (Or.inl ⟨by rfl, ?_⟩) hHeld ?_ ?_
 rotate_left
 ·rintro w' ⟨s0, s1, s2, s3, s4, s5⟩
  go_simp
  with_reducible rfl
 rotate_left
 ·simp only [Act.put, List.setIfInBounds_toArray, List.set_cons_zero, List.set_cons_succ, i64_w, i32_w]
  rfl
 refine take_ (i := 3) (N := some 8) (v := ?_) (a' := ?_) #[true, true, true, true, false, true, false, true, false, false, false, false, false] rfl rfl (take_ofW HT_.out HW_.out (by kernel_rfl)) (fun _ _ _ h => h) (Or.inl ⟨by rfl, ?_⟩) hHeld ?_ ?_
 rotate_left
 ·rintro w' ⟨s0, s1, s2, s3, s4, s5⟩
  go_simp
  with_reducible rfl
 rotate_left
 ·simp only [Act.put, List.setIfInBounds_toArray, List.set_cons_zero, List.set_cons_succ, i64_w, i32_w]
  rfl
 refine take_ (i := 6) (N := some 11) (v := ?_) (a' := ?_) #[true, true, true, true, false, true, true, true, false, false, false, false, false] rfl rfl (take_ofW HT_.out HW_.out (by kernel_rfl)) (fun _ _ _ h => h) (Or.inl ⟨by rfl, ?_⟩) hHeld ?_ ?_
 rotate_left
 ·rintro w' ⟨s0, s1, s2, s3, s4, s5⟩
  go_simp
  with_reducible rfl
 rotate_left
 ·simp only [Act.put, List.setIfInBounds_toArray, List.set_cons_zero, List.set_cons_succ, i64_w, i32_w]
  rfl
 refine take_ (i := 8) (N := some 13) (v := ?_) (a' := ?_) #[true, true, true, true, false, true, true, true, true, false, false, false, false] rfl rfl (take_ofW HT_.out HW_.out (by kernel_rfl)) (fun _ _ _ h => h) (Or.inl ⟨by rfl, ?_⟩) hHeld ?_ ?_
 rotate_left
 ·rintro w' ⟨s0, s1, s2, s3, s4, s5⟩
  go_simp
  with_reducible rfl
 rotate_left
 ·simp only [Act.put, List.setIfInBounds_toArray, List.set_cons_zero, List.set_cons_succ, i64_w, i32_w]
  rfl
 refine one_ (i := 4) (N := some 9) #[true, true, true, true, true, true, true, true, true, false, false, false, false] rfl rfl (one_of HT_.out (by kernel_rfl)) (by decide) (fun K hK => ?_)
 refine goes_ Try.func46 (by kernel_rfl) rfl #[.int .i64 a0_2, .int .i64 a1_2] (by rfl) rfl rfl (by (try simp only [List.map_toArray, List.map_cons, List.map_nil]); first | done | rfl | (simp only [List.length_drop, List.length_take]; rfl)) ?_
 with_reducible refine (cmp_Compare_int.calls a0_2 a1_2 _ _ (cmp_eq a0_2 a1_2)).mono ?_
 rintro e w' ⟨rfl, ⟨nd, rfl⟩⟩
 refine ⟨_, rfl, ?_⟩
 have HG2 := Aside0.mk (HG.out.drewN nd)
 have HX2 := Aside0.mk (show Bx _ _ _ _ _ _ _ _ (World.drewN _ nd) from HX.out)
 clear HG HX
 have HG := HG2
 have HX := HX2
 clear HG2 HX2
 generalize w8.drewN nd = w8a at HG HX ⊢
 refine hK.out _ _ HX.out (fun hHeld => ?_)
 clear hK K
 refine norm_ (a' := ?_) ?_ ?_
 rotate_left
 ·show Act.put _ (some 9) _ = _
  simp only [Act.put, List.setIfInBounds_toArray, List.set_cons_zero, List.set_cons_succ, i64_w, i32_w]
  rfl
 refine one_ (i := 9) (N := some 14) #[true, true, true, true, true, true, true, true, true, true, false, false, false] rfl rfl (one_of HT_.out (by kernel_rfl)) (by decide) (fun K hK => ?_)
 refine goes_ Try.func46 (by kernel_rfl) rfl #[.int .i64 a0_0, .int .i64 a1_0] (by rfl) rfl rfl (by (try simp only [List.map_toArray, List.map_cons, List.map_nil]); first | done | rfl | (simp only [List.length_drop, List.length_take]; rfl)) ?_
 with_reducible refine (cmp_Compare_int.calls a0_0 a1_0 _ _ (cmp_eq a0_0 a1_0)).mono ?_
 rintro e w' ⟨rfl, ⟨nd, rfl⟩⟩
 refine ⟨_, rfl, ?_⟩
 have HG2 := Aside0.mk (HG.out.drewN nd)
 have HX2 := Aside0.mk (show Bx _ _ _ _ _ _ _ _ (World.drewN _ nd) from HX.out)
 clear HG HX
 have HG := HG2
 have HX := HX2
 clear HG2 HX2
 generalize w8a.drewN nd = w9 at HG HX ⊢
 refine hK.out _ _ HX.out (fun hHeld => ?_)
 clear hK K
 refine norm_ (a' := ?_) ?_ ?_
 rotate_left
 ·show Act.put _ (some 14) _ = _
  simp only [Act.put, List.setIfInBounds_toArray, List.set_cons_zero, List.set_cons_succ, i64_w, i32_w]
  rfl
 refine one_ (i := 10) (N := some 15) #[true, true, true, true, true, true, true, true, true, true, true, false, false] rfl rfl (one_of HT_.out (by kernel_rfl)) (by decide) (fun K hK => ?_)
 refine event_step (v := .slice (some ⟨w9.heap.size, 0, none⟩) 2 2) (w1 := w9.alloc (.cells #[.int .i64 (ccmp a0_2 a1_2), .int .i64 (ccmp a0_0 a1_0)] 3)) (by rfl) (by first | (go_simp; done) | (go_simp; rfl)) ?_
 have HC := Aside0.mk (show Kd.C (Kd.int .i64) (w9.alloc (.cells #[.int .i64 (ccmp a0_2 a1_2), .int .i64 (ccmp a0_0 a1_0)] 3)) (some ⟨w9.heap.size, 0, none⟩) 2 [ccmp a0_2 a1_2, ccmp a0_0 a1_0] from by
  refine Kd.C_of_reads (d := 0) ⟨rfl, by decide, fun _ => ⟨_, rfl, fun j hj => ?_⟩⟩
  have h0 := (blk_cell (blk_new w9 (.cells #[.int .i64 (ccmp a0_2 a1_2), .int .i64 (ccmp a0_0 a1_0)] 3)) 0).trans (by rfl)
  have h1 := (blk_cell (blk_new w9 (.cells #[.int .i64 (ccmp a0_2 a1_2), .int .i64 (ccmp a0_0 a1_0)] 3)) 1).trans (by rfl)
  rcases j with _ | _ | j
  · exact h0
  · exact h1
  · omega)
 have HG2 := Aside0.mk (HG.out.alloc (.cells #[.int .i64 (ccmp a0_2 a1_2), .int .i64 (ccmp a0_0 a1_0)] 3))
 have HX2 := Aside0.mk (HX.out.alloc (.cells #[.int .i64 (ccmp a0_2 a1_2), .int .i64 (ccmp a0_0 a1_0)] 3))
 clear HG HX
 have HG := HG2
 have HX := HX2
 clear HG2 HX2
 refine hK.out _ _ HX.out (fun hHeld => ?_)
 clear hK K
 refine norm_ (a' := ?_) ?_ ?_
 rotate_left
 ·show Act.put _ (some 15) _ = _
  simp only [Act.put, List.setIfInBounds_toArray, List.set_cons_zero, List.set_cons_succ, i64_w, i32_w]
  rfl
 generalize w9.alloc _ = w10 at HG HX HC hHeld ⊢
 generalize w9.heap.size = g9 at HC ⊢
 refine one_ (i := 11) (N := some 16) #[true, true, true, true, true, true, true, true, true, true, true, true, false] rfl rfl (one_of HT_.out (by kernel_rfl)) (by decide) (fun K hK => ?_)
 refine goes_ Try.func45 (by kernel_rfl) rfl #[.slice (some ⟨g9, 0, none⟩) 2 2] (by rfl) rfl rfl (by (try simp only [List.map_toArray, List.map_cons, List.map_nil]); first | done | rfl | (simp only [List.length_drop, List.length_take]; rfl)) ?_
 refine (show Calls Try.prog 45 #[.slice (some ⟨g9, 0, none⟩) 2 2] w10 _ from cmp_Or_int.calls 4 _ 2 [ccmp a0_2 a1_2, ccmp a0_0 a1_0] _ _ HC.out (by simp) HOR.out).mono ?_
 rintro e w' ⟨rfl, ⟨nd, rfl⟩⟩
 refine ⟨_, rfl, ?_⟩
 have HG2 := Aside0.mk (HG.out.drewN nd)
 have HX2 := Aside0.mk (show Bx _ _ _ _ _ _ _ _ (World.drewN _ nd) from HX.out)
 clear HG HX
 have HG := HG2
 have HX := HX2
 clear HG2 HX2
 generalize w10.drewN nd = w11 at HG HX ⊢
 refine hK.out _ _ HX.out (fun hHeld => ?_)
 clear hK K
 refine norm_ (a' := ?_) ?_ ?_
 rotate_left
 ·show Act.put _ (some 16) _ = _
  simp only [Act.put, List.setIfInBounds_toArray, List.set_cons_zero, List.set_cons_succ, i64_w, i32_w]
  rfl
 refine pure_ (i := 12) (N := some 4) (v := ?_) (a' := ?_) #[true, true, true, true, true, true, true, true, true, true, true, true, true] rfl rfl (any_of HT_.out (by kernel_rfl)) (fun _ _ _ h => h) (Or.inl ⟨by rfl, ?_⟩) ?_ ?_
 rotate_left
 ·intro w'
  go_simp
  with_reducible rfl
 rotate_left
 ·simp only [Act.put, List.setIfInBounds_toArray, List.set_cons_zero, List.set_cons_succ, i64_w, i32_w]
  rfl
 refine done_ (done_of HT_.out (by kernel_rfl)) ?_
 try go_wp2
 go_ret
 exact ⟨rfl, HG.out⟩
end Go.Proofs.YthhaikkicabplaaR.P
