/- Proved here: what the machine does at calls of the functions that the laws reach is what plain functions of the same names say, or a row of the given statement out of that. No conditions. Written by a program of this session over the printer of the kit. -/
import Derived.Test.YtaoicceakgipgaaDoorTx0
import Derived.Test.YtaoicceakgipgaaDoorTx2
namespace Go.Proofs.YtaoicceakgipgaaDoor.T
open Go.RowKit Go.Proofs.YtaoicceakgipgaaDoorW.PrintWords Go.Proofs.YtaoicceakgipgaaDoorW.PrintLast Go.Proofs.YtaoicceakgipgaaDoorW.PrintMore
attribute [local go_sem] max2_int min2_int max_two min_two max_three min_three max_four min_four   -- for this text's walks alone
set_option linter.unusedVariables false
set_option linter.unusedSimpArgs false

def admit_Book_Sum.l0 : Nat → Int → List (S28) → Int → Int → List S28 → Option (Int × List S28)
 | 0, _, _, _, _, _ => none
 | k + 1, x3, x7, x8, x9, x1000 => if x9 < x8 then (if 0 ≤ x9 then (if x9 < (x7.length : Int) then ((admit_Claim_counts.f ((rd_T28 x7 x9).f0) ((rd_T28 x7 x9).f1) ((rd_T28 x7 x9).f2) ((rd_T28 x7 x9).f3)).bind fun t108 => (admit_Book_Sum.l0 k (wrap64 (x3 + t108)) x7 x8 (wrap64 (x9 + 1)) x1000)) else (none)) else (none)) else (some (x3, x1000))
def admit_Book_Sum.f (k : Nat) (s0_0 : List S28) : Option (Int × List S28) := (bk_List.f s0_0).bind fun bt102 => (admit_Book_Sum.l0 k 0 bt102.1 (bt102.1.length : Int) 0 bt102.2)
theorem admit_Book_Sum.mono_l : ∀ k, (∀ y0 y1 y2 y3 y4, LeO (admit_Book_Sum.l0 k y0 y1 y2 y3 y4) (admit_Book_Sum.l0 (k + 1) y0 y1 y2 y3 y4))
 | 0 => fun _ _ _ _ _ r h => by simp [admit_Book_Sum.l0] at h
 | k + 1 => by
  have ih0 := admit_Book_Sum.mono_l k
  ·intro y0 y1 y2 y3 y4
   unfold admit_Book_Sum.l0
   repeat' first
   | (with_reducible exact ih0 _ _ _ _ _)
   | (with_reducible exact LeO.refl _)
   | (with_reducible exact LeO.none _)
   | (with_reducible refine LeO.ite ?_ ?_)
   | (with_reducible refine LeO.bind ?_ (fun _ => ?_))
   | exact ih0 _ _ _ _ _
   | exact LeO.none _
   | refine LeO.ite ?_ ?_
   | refine LeO.bind ?_ (fun _ => ?_)
theorem admit_Book_Sum.mono : ∀ a0 k, LeO (admit_Book_Sum.f k a0) (admit_Book_Sum.f (k + 1) a0) := by
 intro a0 k
 have ih0 := admit_Book_Sum.mono_l k
 unfold admit_Book_Sum.f
 repeat' first
   | (with_reducible exact ih0 _ _ _ _ _)
   | (with_reducible exact LeO.refl _)
   | (with_reducible exact LeO.none _)
   | (with_reducible refine LeO.ite ?_ ?_)
   | (with_reducible refine LeO.bind ?_ (fun _ => ?_))
   | exact ih0 _ _ _ _ _
   | exact LeO.none _
   | refine LeO.ite ?_ ?_
   | refine LeO.bind ?_ (fun _ => ?_)
set_option maxHeartbeats 8000000 in
set_option maxRecDepth 100000 in
theorem admit_Book_Sum.calls (k : Nat) (g : Nat) (s0_0 : List S28) (r1 : Int) (r2 : List S28) (w0 w : World) (hI : IsS61 w0 w g s0_0) (hB : Below w0.heap.size w0 w) (h : admit_Book_Sum.f k s0_0 = some (r1, r2)) :
  Calls Tryd.prog 11 #[.pointer (some ⟨g, 0, none⟩)] w fun e w' => e = .returned (.int .i64 r1) ∧ IsS61 w0 w' g r2 ∧ Below w0.heap.size w0 w' ∧ KeepBut w w' g none := by
 have hu28 := Tryd.underlying28
 have HI0 := Aside0.mk hI
 have HK := Aside0.mk (KeepBut.refl w g none)
 have HL := Aside0.mk hB.size
 clear hI
 have HW0 := Aside0.mk hB.size
 have HB := Aside0.mk hB
 clear hB
 have H : ((bk_List.f s0_0).bind fun bt102 => (admit_Book_Sum.l0 k 0 bt102.1 (bt102.1.length : Int) 0 bt102.2)) = some (r1, r2) := h
 clear h
 replace H := Option.bind_eq_some_iff.mp H
 obtain ⟨⟨t102, t105⟩, A20, H⟩ := H
 replace H : (admit_Book_Sum.l0 k 0 t102 (t102.length : Int) 0 t105) = some (r1, r2) := H
 have A2 := Aside0.mk A20
 clear A20
 have H' := Aside0.mk H
 clear H
 go_enter Tryd.func11, Tryd.ntmps11
 go_wp2_with (first | ((with_reducible refine gate_callee (f := 22) rfl ?_); refine goesL_ (some 7) rfl rfl Tryd.func22 (by kernel_rfl) rfl #[.pointer (some ⟨g, 0, none⟩)] rfl (by (try simp only [List.map_toArray, List.map_cons, List.map_nil]); first | done | rfl | (simp only [List.length_drop, List.length_take]; rfl)) ?_; (with_reducible refine (bk_List.calls g s0_0 t102 t105 w0 _ ?side1 ?side2 A2.out).mono ?_); (case side1 => repeat (first | (with_reducible first | exact HI0.out | apply IsS61.alloc | apply IsS61.drewN | apply IsS61.drew | apply IsS61.set_0) | exact HI0.out)); (case side2 => repeat (first | (with_reducible first | exact HB.out | apply below_alloc | apply pw_below_drewN | apply below_drew1 | refine below_set ?_ (IsS61.ge HI0.out)) | exact HB.out)); rintro e w3 ⟨v103, rfl, ho0, hi, hb, hk⟩; refine ⟨_, rfl, ?_⟩; have n0_ := Aside0.mk (Kd.R_lower ho0 (keep_size (w := w) (g := g) (row := none) (by repeat (first | (with_reducible first | exact HK.out | apply KeepBut.set_ | apply keep_drewN | apply keep_drew | apply keep_alloc) | exact HK.out)))); have n1_ := Aside0.mk (KeepBut.trans (by repeat (first | (with_reducible first | exact HK.out | apply KeepBut.set_ | apply keep_drewN | apply keep_drew | apply keep_alloc) | exact HK.out)) hk (.inl rfl)); have n2_ := Aside0.mk (hb); have n3_ := Aside0.mk (hi); clear HK; clear HB; clear HI0; have HO104 := n0_; have HK := n1_; have HB := n2_; have HI0 := n3_; clear n0_ n1_ n2_ n3_; (try clear hb); (try clear hb2); (try clear hk); (try clear hi); (try clear ho0); obtain ⟨Ao4, co4, eo4⟩ := Kd.R_slice HO104.out; subst eo4))
 go_loopg [3, 9] k (fun kq v3 v9 w' => ∃ (x3_1 : Int) (x9_1 : Int), v3 = .int .i64 x3_1 ∧ v9 = .int .i64 x9_1 ∧ Aside0 (admit_Book_Sum.l0 kq x3_1 t102 (t102.length : Int) x9_1 t105 = some (r1, r2)) ∧ Aside0 (kq ≤ k) ∧ Aside0 (Kd.R k28 28 w' w.heap.size (fun _ => True) (.slice Ao4 t102.length co4) t102) ∧ Aside0 (IsS61 w0 w' g t105) ∧ Aside0 (KeepBut w w' g none) ∧ Aside0 (Below w0.heap.size w0 w'))
 case atStart => exact ⟨(0), (0), (by first | rfl | (simp; done) | (simp [*]; done)), (by first | rfl | (simp; done) | (simp [*]; done)), H', ⟨Nat.le_refl _⟩, ⟨by (with_reducible repeat (first | apply Kd.R_alloc | apply Kd.R_drewN | apply Kd.R_drew)); exact HO104.out⟩, ⟨by repeat (first | (with_reducible first | exact HI0.out | apply IsS61.alloc | apply IsS61.drewN | apply IsS61.drew | apply IsS61.set_0) | exact HI0.out)⟩, ⟨by repeat (first | (with_reducible first | exact HK.out | apply KeepBut.set_ | apply keep_drewN | apply keep_drew | apply keep_alloc) | exact HK.out)⟩, ⟨by repeat (first | (with_reducible first | exact HB.out | apply below_alloc | apply pw_below_drewN | apply below_drew1 | refine below_set ?_ (IsS61.ge HI0.out)) | exact HB.out)⟩⟩
 case round =>
  clear H'
  try clear c1
  try clear c2
  try clear p2
  obtain ⟨x3_1, x9_1, rfl, rfl, HA, HK1, HO_7, HI0, HK, HB⟩ := hrel
  cases gk with
  | zero => exact absurd HA.out (by simp [admit_Book_Sum.l0])
  | succ k1 =>
   have H := HA.out
   clear HA
   simp only [admit_Book_Sum.l0] at H
   by_cases c5 : x9_1 < (t102.length : Int)
   ·rw [if_pos c5] at H
    have c5b0 : decide (x9_1 < (t102.length : Int)) = true := decide_eq_true c5
    clear c5
    by_cases c6 : 0 ≤ x9_1
    ·rw [if_pos c6] at H
     have c6b0 : decide (0 ≤ x9_1) = true := decide_eq_true c6
     clear c6
     by_cases c7 : x9_1 < (t102.length : Int)
     ·rw [if_pos c7] at H
      have c7b0 : decide (x9_1 < (t102.length : Int)) = true := decide_eq_true c7
      clear c7
      replace H := Option.bind_eq_some_iff.mp H
      obtain ⟨t108, A80, H⟩ := H
      replace H : (admit_Book_Sum.l0 k1 (wrap64 (x3_1 + t108)) t102 (t102.length : Int) (wrap64 (x9_1 + 1)) t105) = some (r1, r2) := H
      have A8 := Aside0.mk A80
      clear A80
      have H' := Aside0.mk H
      clear H
      have p106 : 0 ≤ (x9_1 : Int) := of_decide_eq_true (by first | (with_reducible assumption) | assumption)
      have q106 : x9_1 < (t102.length : Int) := of_decide_eq_true (by first | (with_reducible assumption) | assumption)
      obtain ⟨ad106, e106, hx106_0, hx106_1, hx106_2, hx106_3⟩ := at_T28 (Kd.R_reads' HO_7.out).2.2 x9_1 p106 q106
      cases e106
      replace p106 := eq_true p106
      replace q106 := eq_true q106
      go_wp2_with (first | ((with_reducible refine gate_dst (N := 5) rfl ?_); refine box_event ?hg (N := 5) ?hd (cs := #[.int .i64 0, .int .i64 0, .int .i64 0, .bool false]) (t := 28) ?hr ?_; (case hd => rfl); (case hg => rfl); (case hr => first | (go_simp; done) | (go_simp; rfl)); intro gb107 hg w9 hbox hb; have n0_ := Aside0.mk (Kd.R_below (Kd.R_elderB (by (with_reducible repeat (first | apply Kd.R_alloc | apply Kd.R_drewN | apply Kd.R_drew)); exact HO_7.out) gb107 (Nat.le_of_eq hg.symm)) hb); have n1_ := Aside0.mk (IsS61.below (by repeat (first | (with_reducible first | exact HI0.out | apply IsS61.alloc | apply IsS61.drewN | apply IsS61.drew | apply IsS61.set_0) | exact HI0.out)) hb); have n2_ := Aside0.mk (KeepBut.trans (by repeat (first | (with_reducible first | exact HK.out | apply KeepBut.set_ | apply keep_drewN | apply keep_drew | apply keep_alloc) | exact HK.out)) (KeepBut.of_below hb g none) (.inl rfl)); have n3_ := Aside0.mk (below_step (by repeat (first | (with_reducible first | exact HB.out | apply below_alloc | apply pw_below_drewN | apply below_drew1 | refine below_set ?_ (IsS61.ge HI0.out)) | exact HB.out)) hb); have n4_ := Aside0.mk (hbox); have n5_ := Aside0.mk ((by rw [hg]; exact (keep_size (w := w) (g := g) (row := none) (by repeat (first | (with_reducible first | exact HK.out | apply KeepBut.set_ | apply keep_drewN | apply keep_drew | apply keep_alloc) | exact HK.out))) : w.heap.size ≤ gb107)); have n6_ := Aside0.mk ((Nat.le_trans HW0.out (by rw [hg]; exact (keep_size (w := w) (g := g) (row := none) (by repeat (first | (with_reducible first | exact HK.out | apply KeepBut.set_ | apply keep_drewN | apply keep_drew | apply keep_alloc) | exact HK.out))) : w.heap.size ≤ gb107) : w0.heap.size ≤ gb107)); have n7_ := Aside0.mk ((by rw [hg]; exact Nat.ne_of_lt (IsS61.lt (show IsS61 w0 _ g t105 from by repeat (first | (with_reducible first | exact HI0.out | apply IsS61.alloc | apply IsS61.drewN | apply IsS61.drew | apply IsS61.set_0) | exact HI0.out))) : g ≠ gb107)); have n8_ := Aside0.mk ((by rw [hg]; exact Nat.ne_of_gt (IsS61.lt (show IsS61 w0 _ g t105 from by repeat (first | (with_reducible first | exact HI0.out | apply IsS61.alloc | apply IsS61.drewN | apply IsS61.drew | apply IsS61.set_0) | exact HI0.out))) : gb107 ≠ g)); clear HO_7; clear HI0; clear HK; clear HB; have HO_7 := n0_; have HI0 := n1_; have HK := n2_; have HB := n3_; have BK107 := n4_; have GW107 := n5_; have GE107 := n6_; have NB0_107 := n7_; have NB107_0 := n8_; clear n0_ n1_ n2_ n3_ n4_ n5_ n6_ n7_ n8_; clear hb hbox hg; have hnb10 := NB107_0.out; have hnc10 := NB0_107.out; have hcz11_0 : w9.cell? ⟨gb107, 0, none⟩ = some (.int .i64 0) := (blk_cell BK107.out 0).trans (by rfl); have hcz11_1 : w9.cell? ⟨gb107, 1, none⟩ = some (.int .i64 0) := (blk_cell BK107.out 1).trans (by rfl); have hcz11_2 : w9.cell? ⟨gb107, 2, none⟩ = some (.int .i64 0) := (blk_cell BK107.out 2).trans (by rfl); have hcz11_3 : w9.cell? ⟨gb107, 3, none⟩ = some (.bool false) := (blk_cell BK107.out 3).trans (by rfl); have hfz11_0 := blk_frozen BK107.out 0; have hfz11_1 := blk_frozen BK107.out 1; have hfz11_2 := blk_frozen BK107.out 2; have hfz11_3 := blk_frozen BK107.out 3) | ((with_reducible refine gate_callee (f := 29) rfl ?_); refine goesL_ (some 15) rfl rfl Tryd.func29 (by kernel_rfl) rfl #[.agg #[.int .i64 ((rd_T28 t102 x9_1).f0), .int .i64 ((rd_T28 t102 x9_1).f1), .int .i64 ((rd_T28 t102 x9_1).f2), .bool ((rd_T28 t102 x9_1).f3)]] rfl (by (try simp only [List.map_toArray, List.map_cons, List.map_nil]); first | done | rfl | (simp only [List.length_drop, List.length_take]; rfl)) ?_; (with_reducible refine (admit_Claim_counts.calls ((rd_T28 t102 x9_1).f0) ((rd_T28 t102 x9_1).f1) ((rd_T28 t102 x9_1).f2) ((rd_T28 t102 x9_1).f3) t108 _ A8.out).mono ?_); rintro e w12 ⟨rfl, hb⟩; refine ⟨_, rfl, ?_⟩; have n0_ := Aside0.mk (Kd.R_below (by (with_reducible repeat (first | apply Kd.R_alloc | apply Kd.R_drewN | apply Kd.R_drew)); exact (Kd.R_mono (Kd.R_far (p := ⟨gb107, 3, none⟩) (Kd.R_far (p := ⟨gb107, 2, none⟩) (Kd.R_far (p := ⟨gb107, 1, none⟩) (Kd.R_far (p := ⟨gb107, 0, none⟩) (Kd.R_mono HO_7.out (fun k_ hk => (⟨hk, hk.2⟩ : _ ∧ k_ ≠ gb107))) (fun _ hk => hk.2) (.int .i64 ((rd_T28 t102 x9_1).f0))) (fun _ hk => hk.2) (.int .i64 ((rd_T28 t102 x9_1).f1))) (fun _ hk => hk.2) (.int .i64 ((rd_T28 t102 x9_1).f2))) (fun _ hk => hk.2) (.bool ((rd_T28 t102 x9_1).f3))) (fun _ h_ => h_.1))) hb); have n1_ := Aside0.mk (IsS61.below (show IsS61 w0 _ g t105 from by repeat (first | (with_reducible first | exact HI0.out | apply IsS61.alloc | apply IsS61.drewN | apply IsS61.drew | apply IsS61.set_0 | refine IsS61.far ?_ NB0_107.out _) | exact HI0.out)) hb); have n2_ := Aside0.mk (blk_below (g := gb107) (o := .cells #[.int .i64 ((rd_T28 t102 x9_1).f0), .int .i64 ((rd_T28 t102 x9_1).f1), .int .i64 ((rd_T28 t102 x9_1).f2), .bool ((rd_T28 t102 x9_1).f3)] 28 (0, 0)) (by (with_reducible repeat (first | refine blk_drewN ?_ _ | refine blk_drew ?_ | refine blk_alloc ?_ _)); refine blk_put (cs := #[.int .i64 ((rd_T28 t102 x9_1).f0), .int .i64 ((rd_T28 t102 x9_1).f1), .int .i64 ((rd_T28 t102 x9_1).f2), .bool false]) ?_ 3 _ rfl; (with_reducible repeat (first | refine blk_drewN ?_ _ | refine blk_drew ?_ | refine blk_alloc ?_ _)); refine blk_put (cs := #[.int .i64 ((rd_T28 t102 x9_1).f0), .int .i64 ((rd_T28 t102 x9_1).f1), .int .i64 0, .bool false]) ?_ 2 _ rfl; (with_reducible repeat (first | refine blk_drewN ?_ _ | refine blk_drew ?_ | refine blk_alloc ?_ _)); refine blk_put (cs := #[.int .i64 ((rd_T28 t102 x9_1).f0), .int .i64 0, .int .i64 0, .bool false]) ?_ 1 _ rfl; (with_reducible repeat (first | refine blk_drewN ?_ _ | refine blk_drew ?_ | refine blk_alloc ?_ _)); refine blk_put (cs := #[.int .i64 0, .int .i64 0, .int .i64 0, .bool false]) ?_ 0 _ rfl; (with_reducible repeat (first | refine blk_drewN ?_ _ | refine blk_drew ?_ | refine blk_alloc ?_ _)); exact BK107.out) hb); have n3_ := Aside0.mk (KeepBut.trans (by repeat (first | (with_reducible first | exact HK.out | apply KeepBut.set_ | apply keep_drewN | apply keep_drew | apply keep_alloc | refine keep_far ?_ GW107.out _) | exact HK.out)) (KeepBut.of_below hb g none) (.inl rfl)); have n4_ := Aside0.mk (below_step (by repeat (first | (with_reducible first | exact HB.out | apply below_alloc | apply pw_below_drewN | apply below_drew1 | refine below_set ?_ (IsS61.ge HI0.out) | refine below_set ?_ GE107.out) | exact HB.out)) hb); clear HO_7; clear HI0; clear BK107; clear HK; clear HB; have HO_7 := n0_; have HI0 := n1_; have BK107 := n2_; have HK := n3_; have HB := n4_; clear n0_ n1_ n2_ n3_ n4_; (try clear hb); (try clear hb2); (try clear hk); (try clear hi)))
      go_roundg k1
      case measure => have := HK1.out; omega
      case rel => exact ⟨(wrap64 (x3_1 + t108)), (wrap64 (x9_1 + 1)), (by first | rfl | (simp; done) | (simp [*]; done)), (by first | rfl | (simp; done) | (simp [*]; done)), H', ⟨by have := HK1.out; omega⟩, ⟨by (with_reducible repeat (first | apply Kd.R_alloc | apply Kd.R_drewN | apply Kd.R_drew)); exact Kd.R_mono HO_7.out (fun _ hk => trivial)⟩, ⟨by repeat (first | (with_reducible first | exact HI0.out | apply IsS61.alloc | apply IsS61.drewN | apply IsS61.drew | apply IsS61.set_0 | refine IsS61.far ?_ NB0_107.out _) | exact HI0.out)⟩, ⟨by repeat (first | (with_reducible first | exact HK.out | apply KeepBut.set_ | apply keep_drewN | apply keep_drew | apply keep_alloc | refine keep_far ?_ GW107.out _) | exact HK.out)⟩, ⟨by repeat (first | (with_reducible first | exact HB.out | apply below_alloc | apply pw_below_drewN | apply below_drew1 | refine below_set ?_ (IsS61.ge HI0.out) | refine below_set ?_ GE107.out) | exact HB.out)⟩⟩
     ·rw [if_neg c7] at H
      exact absurd H (by simp)
    ·rw [if_neg c6] at H
     exact absurd H (by simp)
   ·rw [if_neg c5] at H
    have c5b0 : decide (x9_1 < (t102.length : Int)) = false := decide_eq_false c5
    clear c5
    simp only [Option.some.injEq, Prod.mk.injEq] at H
    obtain ⟨rfl, rfl⟩ := H
    go_wp2
    go_ret
    exact ⟨by first | rfl | (simp [errW_none, errW_some] <;> rfl) | (simp [*, errW_none, errW_some] <;> rfl), by repeat (first | (with_reducible first | exact HI0.out | apply IsS61.alloc | apply IsS61.drewN | apply IsS61.drew | apply IsS61.set_0) | exact HI0.out), by repeat (first | (with_reducible first | exact HB.out | apply below_alloc | apply pw_below_drewN | apply below_drew1 | refine below_set ?_ (IsS61.ge HI0.out)) | exact HB.out), by repeat (first | (with_reducible first | exact HK.out | apply KeepBut.set_ | apply keep_drewN | apply keep_drew | apply keep_alloc) | exact HK.out)⟩
def bk_Sum.f (b0 : List S28) : Option (Int × List S28) := some (bkSum b0, b0)
theorem admit_Book_Sum.l0_val (B : List S28) : ∀ (l r : List S28) (n : Int) (k : Nat), r.length < k → (l ++ r).length ≤ 64 →
    admit_Book_Sum.l0 k n (l ++ r) ((l ++ r).length : Int) (l.length : Int) B = some (bkSumOf n r, B)
  | l, [], n, k, hk, _ => by
    obtain ⟨k, rfl⟩ : ∃ m, k = m + 1 := ⟨k - 1, by simp at hk; omega⟩
    simp only [admit_Book_Sum.l0]
    rw [if_neg (by simp)]
    rfl
  | l, c :: r, n, k, hk, hl => by
    obtain ⟨k, rfl⟩ : ∃ m, k = m + 1 := ⟨k - 1, by simp at hk; omega⟩
    have hl2 : l.length + (r.length + 1) ≤ 64 := by simpa using hl
    have hg : rd_T28 (l ++ c :: r) (l.length : Int) = c := by simp [rd_T28]
    have hw : wrap64 ((l.length : Int) + 1) = ((l ++ [c]).length : Int) := by unfold wrap64; simp; omega
    have ih := admit_Book_Sum.l0_val B (l ++ [c]) r (wrap64 (n + mx c.f1 c.f2)) k (by simp at hk; omega) (by simpa using hl)
    simp only [admit_Book_Sum.l0]
    rw [if_pos (by simp; omega), if_pos (by omega), if_pos (by simp; omega), hg, hw]
    simp only [admit_Claim_counts.f, Option.bind_some]
    rw [List.append_assoc] at ih
    exact ih
theorem admit_Book_Sum.val {b : List S28} (h : b.length = 64) : admit_Book_Sum.f 66 b = some (bkSum b, b) := by
  have hl : (bkL b).length ≤ 64 := by unfold bkL; exact Nat.le_trans (List.length_filter_le _ _) (Nat.le_of_eq h)
  have := admit_Book_Sum.l0_val b [] (bkL b) 0 66 (by omega) (by simpa using hl)
  unfold admit_Book_Sum.f bk_List.f
  simp only [Option.bind_some]
  exact this
theorem bk_Sum.calls (g : Nat) (b0 : List S28) (r1 : Int) (r2 : List S28) (w0 w : World) (hI : IsS61 w0 w g b0) (hB : Below w0.heap.size w0 w) (h : bk_Sum.f b0  = some (r1, r2)) :
    Calls Tryd.prog 11 #[.pointer (some ⟨g, 0, none⟩)] w fun e w' => e = .returned (.int .i64 r1) ∧ IsS61 w0 w' g r2 ∧ Below w0.heap.size w0 w' ∧ KeepBut w w' g none := by
  simp only [bk_Sum.f, Option.some.injEq, Prod.mk.injEq] at h
  obtain ⟨rfl, rfl⟩ := h
  exact admit_Book_Sum.calls 66 g b0 _ _ w0 w hI hB (admit_Book_Sum.val hI.2.2.2)

/-! ### tithelaw08_num: function 12 -/
def tithelaw08_num.f (a0 : Option Int) : Option (Int) := if a0.isNone = true then (some 0) else (some (a0.getD 0))
set_option maxHeartbeats 8000000 in
set_option maxRecDepth 100000 in
theorem tithelaw08_num.calls (a0 : Option Int) (r : Int) (w : World) (h : tithelaw08_num.f a0 = some r) :
    Calls Tryd.prog 12 #[errW a0] w fun e w' => e = .returned (.int .i64 r) ∧ Drawn0 w w' := by
  have hu34 := Tryd.underlying34
  have hu64 := Tryd.underlying64
  have hta : ∀ (v : Value) (W : World), (Instr.typeAssert (.iface 64 v) 34 64 true).run Tryd.prog W = .ok (.tuple #[v, .bool true]) W := fun v W => by rfl
  have H : (if a0.isNone = true then (some 0) else (some (a0.getD 0))) = some r := h
  clear h
  rcases a0 with _ | q102
  · have H1 : (some 0) = some r := by rw [if_pos (show (none : Option Int).isNone = true by rfl)] at H; exact H
    clear H
    have H := H1
    clear H1
    simp only [errW_none, errW_some]
    obtain rfl := Option.some.inj H
    go_enter Tryd.func12, Tryd.ntmps12
    go_wp2
    go_ret
    exact ⟨by first | rfl | (simp; done) | (simp [*]; done), by repeat (first | exact Drawn0.refl _ | apply Drawn0.step)⟩
  · have H1 : (some q102) = some r := by rw [if_neg (show ¬ (some q102).isNone = true by simp)] at H; exact H
    clear H
    have H := H1
    clear H1
    simp only [errW_none, errW_some]
    obtain rfl := Option.some.inj H
    go_enter Tryd.func12, Tryd.ntmps12
    go_wp2
    go_ret
    exact ⟨by first | rfl | (simp; done) | (simp [*]; done), by repeat (first | exact Drawn0.refl _ | apply Drawn0.step)⟩

-- NOT PRINTED: function 28 (admit_Book_at)

/-! ### admit_share: function 30 -/
def admit_share.f (a0 : Int) : Option (Bool) := if a0 ≥ 1 then (some (decide (a0 ≤ 1048576))) else (some false)
set_option maxHeartbeats 8000000 in
set_option maxRecDepth 100000 in
theorem admit_share.calls (a0 : Int) (r : Bool) (w : World) (h : admit_share.f a0 = some r) :
    Calls Tryd.prog 30 #[.int .i64 a0] w fun e w' => e = .returned (.bool r) ∧ Drawn0 w w' := by
  have H : (if a0 ≥ 1 then (some (decide (a0 ≤ 1048576))) else (some false)) = some r := h
  clear h
  by_cases c2 : a0 ≥ 1
  · rw [if_pos c2] at H
    have c2b0 : decide (1 ≤ a0) = true := decide_eq_true c2
    clear c2
    obtain rfl := Option.some.inj H
    go_enter Tryd.func30, Tryd.ntmps30
    go_wp2
    go_ret
    exact ⟨by first | rfl | (simp; done) | (simp [*]; done), by repeat (first | exact Drawn0.refl _ | apply Drawn0.step)⟩
  · rw [if_neg c2] at H
    have c2b0 : decide (1 ≤ a0) = false := decide_eq_false c2
    clear c2
    obtain rfl := Option.some.inj H
    go_enter Tryd.func30, Tryd.ntmps30
    go_wp2
    go_ret
    exact ⟨by first | rfl | (simp; done) | (simp [*]; done), by repeat (first | exact Drawn0.refl _ | apply Drawn0.step)⟩

def bk_Add.f (b0 : List S28) (a1 a2 : Int) : Option (Option Int × List S28) := some (bkAdd b0 a1 a2)
section
attribute [local go_sem high] bkEq
set_option maxHeartbeats 8000000 in
set_option maxRecDepth 100000 in
theorem bk_Add.calls (g : Nat) (b0 : List S28) (a1 a2 : Int) (r1 : Option Int) (r2 : List S28) (w0 w : World) (hI : IsS61 w0 w g b0) (hB : Below w0.heap.size w0 w) (h : bk_Add.f b0 a1 a2 = some (r1, r2)) :
    Calls Tryd.prog 13 #[.pointer (some ⟨g, 0, none⟩), .int .i64 a1, .int .i64 a2] w fun e w' => e = .returned (errW r1) ∧ IsS61 w0 w' g r2 ∧ Below w0.heap.size w0 w' ∧ KeepBut w w' g none := by
  have h' := Option.some.inj h
  have hu23 := Tryd.underlying23
  have hu62 := Tryd.underlying62
  have hu28 := Tryd.underlying28
  have hu34 := Tryd.underlying34
  have hu64 := Tryd.underlying64
  have HI := Aside0.mk hI
  have HB := Aside0.mk hB
  have hu61 := Tryd.underlying61
  have hu59 := Tryd.underlying59
  unfold bkAdd at h'
  by_cases q0 : a1 < 0
  · rw [if_pos q0] at h'
    simp only [Prod.mk.injEq] at h'
    obtain ⟨rfl, rfl⟩ := h'
    have q0b : decide (a1 < 0) = true := decide_eq_true q0
    clear q0 h hI hB
    go_enter Tryd.func13, Tryd.ntmps13
    go_wp2_with (first | fail)
    go_ret
    exact ⟨rfl, HI.out, (by repeat (first | (with_reducible first | exact HB.out | apply below_alloc | apply pw_below_drewN | apply below_drew1 | refine below_set ?_ (IsS61.ge HI.out)) | exact HB.out)), (by repeat (first | exact KeepBut.refl _ _ _ | apply keep_drewN | apply KeepBut.set_ | apply keep_alloc))⟩
  rw [if_neg q0] at h'
  have q0b : decide (a1 < 0) = false := decide_eq_false q0
  by_cases q1 : a1 ≥ 64
  · rw [if_pos q1] at h'
    simp only [Prod.mk.injEq] at h'
    obtain ⟨rfl, rfl⟩ := h'
    have q1b : decide (64 ≤ a1) = true := decide_eq_true q1
    clear q0 q1 h hI hB
    go_enter Tryd.func13, Tryd.ntmps13
    go_wp2_with (first | fail)
    go_ret
    exact ⟨rfl, HI.out, (by repeat (first | (with_reducible first | exact HB.out | apply below_alloc | apply pw_below_drewN | apply below_drew1 | refine below_set ?_ (IsS61.ge HI.out)) | exact HB.out)), (by repeat (first | exact KeepBut.refl _ _ _ | apply keep_drewN | apply KeepBut.set_ | apply keep_alloc))⟩
  rw [if_neg q1] at h'
  have q1b : decide (64 ≤ a1) = false := decide_eq_false q1
  have HP := Aside0.mk (show 0 ≤ a1 ∧ a1 < 64 from ⟨by omega, by omega⟩)
  clear q0 q1
  cases hA : bkAt b0 a1 with
  | true =>
    rw [if_pos hA] at h'
    simp only [Prod.mk.injEq] at h'
    obtain ⟨rfl, rfl⟩ := h'
    have HA := Aside0.mk (atV_t (g := g) hA)
    clear hA h hI hB
    go_enter Tryd.func13, Tryd.ntmps13
    go_wp2_with (first | (go_at_call 28; refine (bk_at.calls g b0 a1 w0 w HI.out HB.out).mono ?_; rintro e w' ⟨rfl, nd, rfl⟩; rw [HA.out]))
    go_ret
    exact ⟨rfl, HI.out, (by repeat (first | (with_reducible first | exact HB.out | apply below_alloc | apply pw_below_drewN | apply below_drew1 | refine below_set ?_ (IsS61.ge HI.out)) | exact HB.out)), (by repeat (first | exact KeepBut.refl _ _ _ | apply keep_drewN | apply KeepBut.set_ | apply keep_alloc))⟩
  | false =>
    rw [if_neg (by rw [hA]; decide)] at h'
    have HA := Aside0.mk (atV_f (g := g) hA)
    have hsh : admit_share.f a2 = some (shareB a2) := by
      unfold admit_share.f shareB
      by_cases hh : a2 ≥ 1
      · rw [if_pos hh, decide_eq_true hh, Bool.true_and]
      · rw [if_neg hh, decide_eq_false hh, Bool.false_and]
    have HSH := Aside0.mk hsh
    clear hsh hA
    cases hs : shareB a2 with
    | false =>
      rw [if_pos hs] at h'
      simp only [Prod.mk.injEq] at h'
      obtain ⟨rfl, rfl⟩ := h'
      rw [hs] at HSH
      clear hs h hI hB
      go_enter Tryd.func13, Tryd.ntmps13
      go_wp2_with (first | (go_at_call 28; refine (bk_at.calls g b0 a1 w0 w HI.out HB.out).mono ?_; rintro e w' ⟨rfl, nd, rfl⟩; rw [HA.out]) | (go_at_call 30; refine (admit_share.calls a2 false _ HSH.out).mono ?_; rintro e w' ⟨rfl, nd2, rfl⟩))
      go_ret
      exact ⟨rfl, HI.out, (by repeat (first | (with_reducible first | exact HB.out | apply below_alloc | apply pw_below_drewN | apply below_drew1 | refine below_set ?_ (IsS61.ge HI.out)) | exact HB.out)), (by repeat (first | exact KeepBut.refl _ _ _ | apply keep_drewN | apply KeepBut.set_ | apply keep_alloc))⟩
    | true =>
      rw [if_neg (by rw [hs]; decide)] at h'
      rw [hs] at HSH
      clear hs
      by_cases q2 : wrap64 (bkSum b0 + a2) > 1048576
      · rw [if_pos q2] at h'
        simp only [Prod.mk.injEq] at h'
        obtain ⟨rfl, rfl⟩ := h'
        have q2b : decide (1048576 < wrap64 (bkSum b0 + a2)) = true := decide_eq_true q2
        clear q2 h hI hB
        go_enter Tryd.func13, Tryd.ntmps13
        go_wp2_with (first | (go_at_call 28; refine (bk_at.calls g b0 a1 w0 w HI.out HB.out).mono ?_; rintro e w' ⟨rfl, nd, rfl⟩; rw [HA.out]) | (go_at_call 30; refine (admit_share.calls a2 true _ HSH.out).mono ?_; rintro e w' ⟨rfl, nd2, rfl⟩) | (go_at_call 11; refine (bk_Sum.calls g b0 (bkSum b0) b0 w0 _ (by repeat (first | exact HI.out | apply IsS61.drewN)) (by repeat (first | (with_reducible first | exact HB.out | apply below_alloc | apply pw_below_drewN | apply below_drew1 | refine below_set ?_ (IsS61.ge HI.out)) | exact HB.out)) rfl).mono ?_; rintro e ws ⟨rfl, hi, hb, hk⟩; have HI2 := Aside0.mk hi; have HB2 := Aside0.mk hb; have HK2 := Aside0.mk (KeepBut.trans (show KeepBut w _ g none from (by repeat (first | exact KeepBut.refl _ _ _ | apply keep_drewN | apply KeepBut.set_ | apply keep_alloc))) hk (.inl rfl)); clear hi hb hk))
        go_ret
        exact ⟨rfl, HI2.out, HB2.out, HK2.out⟩
      · rw [if_neg q2] at h'
        simp only [Prod.mk.injEq] at h'
        obtain ⟨rfl, rfl⟩ := h'
        have q2b : decide (1048576 < wrap64 (bkSum b0 + a2)) = false := decide_eq_false q2
        have p0 := eq_true HP.out.1
        have p1 := eq_true HP.out.2
        clear q2 h hI hB
        go_enter Tryd.func13, Tryd.ntmps13
        go_wp2_with (first | (go_at_call 28; refine (bk_at.calls g b0 a1 w0 w HI.out HB.out).mono ?_; rintro e w' ⟨rfl, nd, rfl⟩; rw [HA.out]) | (go_at_call 30; refine (admit_share.calls a2 true _ HSH.out).mono ?_; rintro e w' ⟨rfl, nd2, rfl⟩) | (go_at_call 11; refine (bk_Sum.calls g b0 (bkSum b0) b0 w0 _ (by repeat (first | exact HI.out | apply IsS61.drewN)) (by repeat (first | (with_reducible first | exact HB.out | apply below_alloc | apply pw_below_drewN | apply below_drew1 | refine below_set ?_ (IsS61.ge HI.out)) | exact HB.out)) rfl).mono ?_; rintro e ws ⟨rfl, hi, hb, hk⟩; have HI2 := Aside0.mk hi; have HB2 := Aside0.mk hb; have HK2 := Aside0.mk (KeepBut.trans (show KeepBut w _ g none from (by repeat (first | exact KeepBut.refl _ _ _ | apply keep_drewN | apply KeepBut.set_ | apply keep_alloc))) hk (.inl rfl)); clear hi hb hk; have f0 := froz_of HI2.out (a1.toNat * 4); have f1 := froz_of HI2.out (a1.toNat * 4 + 1); have f2 := froz_of HI2.out (a1.toNat * 4 + 2); have f3 := froz_of HI2.out (a1.toNat * 4 + 3); obtain ⟨c0, c1, c2, c3⟩ := cells_of HI2.out HP.out.1 HP.out.2))
        go_ret
        exact ⟨rfl, S_set4 HI2.out HP.out.1 HP.out.2 _ _ _ _, (by repeat (first | (with_reducible first | exact HB2.out | apply below_alloc | apply pw_below_drewN | apply below_drew1 | refine below_set ?_ (IsS61.ge HI2.out)) | exact HB2.out)), (by repeat (first | exact HK2.out | apply keep_drewN | apply KeepBut.set_ | apply keep_alloc))⟩
end

def bk_Resize.f (b0 : List S28) (a1 a2 : Int) : Option (Option Int × List S28) := some (bkResize b0 a1 a2)
section
attribute [local go_sem high] bkEq
set_option maxHeartbeats 8000000 in
set_option maxRecDepth 100000 in
theorem bk_Resize.calls (g : Nat) (b0 : List S28) (a1 a2 : Int) (r1 : Option Int) (r2 : List S28) (w0 w : World) (hI : IsS61 w0 w g b0) (hB : Below w0.heap.size w0 w) (h : bk_Resize.f b0 a1 a2 = some (r1, r2)) :
    Calls Tryd.prog 14 #[.pointer (some ⟨g, 0, none⟩), .int .i64 a1, .int .i64 a2] w fun e w' => e = .returned (errW r1) ∧ IsS61 w0 w' g r2 ∧ Below w0.heap.size w0 w' ∧ KeepBut w w' g none := by
  have h' := Option.some.inj h
  have hu23 := Tryd.underlying23
  have hu62 := Tryd.underlying62
  have hu28 := Tryd.underlying28
  have hu34 := Tryd.underlying34
  have hu64 := Tryd.underlying64
  have HI := Aside0.mk hI
  have HB := Aside0.mk hB
  unfold bkResize at h'
  cases hA : bkAt b0 a1 with
  | false =>
    rw [if_pos hA] at h'
    simp only [Prod.mk.injEq] at h'
    obtain ⟨rfl, rfl⟩ := h'
    have HA := Aside0.mk (atV_f (g := g) hA)
    clear hA h hI hB
    go_enter Tryd.func14, Tryd.ntmps14
    go_wp2_with (first | (go_at_call 28; refine (bk_at.calls g b0 a1 w0 w HI.out HB.out).mono ?_; rintro e w' ⟨rfl, nd, rfl⟩; rw [HA.out]))
    go_ret
    exact ⟨rfl, HI.out, (by repeat (first | (with_reducible first | exact HB.out | apply below_alloc | apply pw_below_drewN | apply below_drew1 | refine below_set ?_ (IsS61.ge HI.out)) | exact HB.out)), (by repeat (first | exact KeepBut.refl _ _ _ | apply keep_drewN | apply KeepBut.set_ | apply keep_alloc))⟩
  | true =>
    rw [if_neg (by rw [hA]; decide)] at h'
    have HP := Aside0.mk (at_in hA)
    obtain ⟨c0, c1, c2, c3⟩ := cells_of hI HP.out.1 HP.out.2
    have HA := Aside0.mk (atV_t (g := g) hA)
    cases hd : (bkGet b0 a1).f3 with
    | true =>
      rw [if_pos hd] at h'
      simp only [Prod.mk.injEq] at h'
      obtain ⟨rfl, rfl⟩ := h'
      rw [hd] at c3
      clear hA h hI hB hd c0 c1 c2
      go_enter Tryd.func14, Tryd.ntmps14
      go_wp2_with (first | (go_at_call 28; refine (bk_at.calls g b0 a1 w0 w HI.out HB.out).mono ?_; rintro e w' ⟨rfl, nd, rfl⟩; rw [HA.out]))
      go_ret
      exact ⟨rfl, HI.out, (by repeat (first | (with_reducible first | exact HB.out | apply below_alloc | apply pw_below_drewN | apply below_drew1 | refine below_set ?_ (IsS61.ge HI.out)) | exact HB.out)), (by repeat (first | exact KeepBut.refl _ _ _ | apply keep_drewN | apply KeepBut.set_ | apply keep_alloc))⟩
    | false =>
      rw [if_neg (by rw [hd]; decide)] at h'
      have HD := Aside0.mk hd
      rw [hd] at c3
      have hsh : admit_share.f a2 = some (shareB a2) := by
        unfold admit_share.f shareB
        by_cases hh : a2 ≥ 1
        · rw [if_pos hh, decide_eq_true hh, Bool.true_and]
        · rw [if_neg hh, decide_eq_false hh, Bool.false_and]
      have HSH := Aside0.mk hsh
      clear hsh hA hd
      cases hs : shareB a2 with
      | false =>
        rw [if_pos hs] at h'
        simp only [Prod.mk.injEq] at h'
        obtain ⟨rfl, rfl⟩ := h'
        rw [hs] at HSH
        clear hs h hI hB c0 c1 c2
        go_enter Tryd.func14, Tryd.ntmps14
        go_wp2_with (first | (go_at_call 28; refine (bk_at.calls g b0 a1 w0 w HI.out HB.out).mono ?_; rintro e w' ⟨rfl, nd, rfl⟩; rw [HA.out]) | (go_at_call 30; refine (admit_share.calls a2 false _ HSH.out).mono ?_; rintro e w' ⟨rfl, nd2, rfl⟩))
        go_ret
        exact ⟨rfl, HI.out, (by repeat (first | (with_reducible first | exact HB.out | apply below_alloc | apply pw_below_drewN | apply below_drew1 | refine below_set ?_ (IsS61.ge HI.out)) | exact HB.out)), (by repeat (first | exact KeepBut.refl _ _ _ | apply keep_drewN | apply KeepBut.set_ | apply keep_alloc))⟩
      | true =>
        rw [if_neg (by rw [hs]; decide)] at h'
        rw [hs] at HSH
        clear hs
        have HSof := Aside0.mk (fun (W : World) (h : RsOk w0 w g b0 W) => show (fun W => W.cell? ⟨g, a1.toNat * 4, none⟩ = some (.int .i64 (bkGet b0 a1).f0) ∧ W.cell? ⟨g, a1.toNat * 4 + 1, none⟩ = some (.int .i64 (bkGet b0 a1).f1) ∧ W.cell? ⟨g, a1.toNat * 4 + 2, none⟩ = some (.int .i64 (bkGet b0 a1).f2) ∧ W.cell? ⟨g, a1.toNat * 4 + 3, none⟩ = some (.bool (bkGet b0 a1).f3) ∧ RsOk w0 w g b0 W) W from ⟨(cells_of h.1 HP.out.1 HP.out.2).1, (cells_of h.1 HP.out.1 HP.out.2).2.1, (cells_of h.1 HP.out.1 HP.out.2).2.2.1, (cells_of h.1 HP.out.1 HP.out.2).2.2.2, h⟩)
        have HR := Aside0.mk (show RsOk w0 w g b0 w from ⟨hI, hB, KeepBut.refl _ _ _⟩)
        obtain ⟨M, hM⟩ : ∃ j_ : Int, mx (bkGet b0 a1).f1 a2 = j_ := ⟨_, rfl⟩
        rw [hM] at h'
        have hM_ : (if (bkGet b0 a1).f1 < a2 then a2 else (bkGet b0 a1).f1) = M := hM
        clear hM
        obtain ⟨X, hX⟩ : ∃ j_ : Int, wrap64 (bkSum b0 - mx (bkGet b0 a1).f1 (bkGet b0 a1).f2) = j_ := ⟨_, rfl⟩
        rw [hX] at h'
        obtain ⟨Y, hY⟩ : ∃ j_ : Int, wrap64 (X + M) = j_ := ⟨_, rfl⟩
        rw [hY] at h'
        have hX_ : IntKind.i64.wrap (bkSum b0 - mx (bkGet b0 a1).f1 (bkGet b0 a1).f2) = X := by rw [i64_w]; exact hX
        have hY_ : IntKind.i64.wrap (X + M) = Y := by rw [i64_w]; exact hY
        clear hX hY
        by_cases q2 : Y > 1048576
        · rw [if_pos q2] at h'
          simp only [Prod.mk.injEq] at h'
          obtain ⟨rfl, rfl⟩ := h'
          have q2b : decide (1048576 < Y) = true := decide_eq_true q2
          clear q2 h hI hB c0 c1 c2
          go_enter Tryd.func14, Tryd.ntmps14
          go_wp2_with (first | (go_at_call 28; refine (bk_at.calls g b0 a1 w0 w HI.out HB.out).mono ?_; rintro e w' ⟨rfl, nd, rfl⟩; rw [HA.out]) | (go_at_call 30; refine (admit_share.calls a2 true _ HSH.out).mono ?_; rintro e w' ⟨rfl, nd2, rfl⟩))
          go_region_held3 (fun W => W.cell? ⟨g, a1.toNat * 4, none⟩ = some (.int .i64 (bkGet b0 a1).f0) ∧ W.cell? ⟨g, a1.toNat * 4 + 1, none⟩ = some (.int .i64 (bkGet b0 a1).f1) ∧ W.cell? ⟨g, a1.toNat * 4 + 2, none⟩ = some (.int .i64 (bkGet b0 a1).f2) ∧ W.cell? ⟨g, a1.toNat * 4 + 3, none⟩ = some (.bool (bkGet b0 a1).f3) ∧ RsOk w0 w g b0 W) (exact HSof.out _ (by repeat (first | exact HR.out | apply RsOk.drewN | apply RsOk.drew))) (first | (go_at_call 11; refine (bk_Sum.calls g b0 (bkSum b0) b0 w0 _ (show RsOk w0 w g b0 _ from (by repeat (first | exact HR.out | apply RsOk.drewN | apply RsOk.drew))).1 (show RsOk w0 w g b0 _ from (by repeat (first | exact HR.out | apply RsOk.drewN | apply RsOk.drew))).2.1 rfl).mono ?_; rintro e ws ⟨rfl, hi, hb, hk⟩; have HR2 := Aside0.mk (show RsOk w0 w g b0 ws from ⟨hi, hb, KeepBut.trans (show RsOk w0 w g b0 _ from (by repeat (first | exact HR.out | apply RsOk.drewN | apply RsOk.drew))).2.2 hk (.inl rfl)⟩); clear hi hb hk; clear HR; have HR := HR2) | (go_at_call 29; refine (admit_Claim_counts.calls _ _ _ _ (mx (bkGet b0 a1).f1 (bkGet b0 a1).f2) _ rfl).mono ?_; rintro e wc ⟨rfl, hb⟩; have HR3 := Aside0.mk (RsOk.below (show RsOk w0 w g b0 _ from (by repeat (first | exact HR.out | apply RsOk.drewN | apply RsOk.drew))) hb); clear hb; clear HR; have HR := HR3))
          all_goals (go_wp2; go_ret; exact ⟨rfl, HR.out.1, HR.out.2.1, HR.out.2.2⟩)
        · rw [if_neg q2] at h'
          simp only [Prod.mk.injEq] at h'
          obtain ⟨rfl, rfl⟩ := h'
          have q2b : decide (1048576 < Y) = false := decide_eq_false q2
          clear q2 h hI hB c0 c1 c2
          go_enter Tryd.func14, Tryd.ntmps14
          go_wp2_with (first | (go_at_call 28; refine (bk_at.calls g b0 a1 w0 w HI.out HB.out).mono ?_; rintro e w' ⟨rfl, nd, rfl⟩; rw [HA.out]) | (go_at_call 30; refine (admit_share.calls a2 true _ HSH.out).mono ?_; rintro e w' ⟨rfl, nd2, rfl⟩))
          go_region_held3 (fun W => W.cell? ⟨g, a1.toNat * 4, none⟩ = some (.int .i64 (bkGet b0 a1).f0) ∧ W.cell? ⟨g, a1.toNat * 4 + 1, none⟩ = some (.int .i64 (bkGet b0 a1).f1) ∧ W.cell? ⟨g, a1.toNat * 4 + 2, none⟩ = some (.int .i64 (bkGet b0 a1).f2) ∧ W.cell? ⟨g, a1.toNat * 4 + 3, none⟩ = some (.bool (bkGet b0 a1).f3) ∧ RsOk w0 w g b0 W) (exact HSof.out _ (by repeat (first | exact HR.out | apply RsOk.drewN | apply RsOk.drew))) (first | (go_at_call 11; refine (bk_Sum.calls g b0 (bkSum b0) b0 w0 _ (show RsOk w0 w g b0 _ from (by repeat (first | exact HR.out | apply RsOk.drewN | apply RsOk.drew))).1 (show RsOk w0 w g b0 _ from (by repeat (first | exact HR.out | apply RsOk.drewN | apply RsOk.drew))).2.1 rfl).mono ?_; rintro e ws ⟨rfl, hi, hb, hk⟩; have HR2 := Aside0.mk (show RsOk w0 w g b0 ws from ⟨hi, hb, KeepBut.trans (show RsOk w0 w g b0 _ from (by repeat (first | exact HR.out | apply RsOk.drewN | apply RsOk.drew))).2.2 hk (.inl rfl)⟩); clear hi hb hk; clear HR; have HR := HR2) | (go_at_call 29; refine (admit_Claim_counts.calls _ _ _ _ (mx (bkGet b0 a1).f1 (bkGet b0 a1).f2) _ rfl).mono ?_; rintro e wc ⟨rfl, hb⟩; have HR3 := Aside0.mk (RsOk.below (show RsOk w0 w g b0 _ from (by repeat (first | exact HR.out | apply RsOk.drewN | apply RsOk.drew))) hb); clear hb; clear HR; have HR := HR3))
          all_goals have hf := froz_of HR.out.1 (a1.toNat * 4 + 2)
          all_goals (go_wp2; go_ret)
          all_goals exact ⟨rfl, S_set HR.out.1 HP.out.1 HP.out.2 2 (.int .i64 a2) ⟨(bkGet b0 a1).f0, (bkGet b0 a1).f1, a2, (bkGet b0 a1).f3⟩ (by omega) rfl, below_set HR.out.2.1 HR.out.1.ge, HR.out.2.2.set_ _ _⟩
end

def bk_Cross.f (b0 : List S28) (a1 : Int) : Option (Int × Option Int × List S28) := some (bkCross b0 a1)
section
attribute [local go_sem high] bkEq
set_option maxHeartbeats 8000000 in
set_option maxRecDepth 100000 in
theorem bk_Cross.calls (g : Nat) (b0 : List S28) (a1 : Int) (r1 : Int) (r2 : Option Int) (r3 : List S28) (w0 w : World) (hI : IsS61 w0 w g b0) (hB : Below w0.heap.size w0 w) (h : bk_Cross.f b0 a1 = some (r1, r2, r3)) :
    Calls Tryd.prog 16 #[.pointer (some ⟨g, 0, none⟩), .int .i64 a1] w fun e w' => e = .returned (.tuple #[.int .i64 r1, errW r2]) ∧ IsS61 w0 w' g r3 ∧ Below w0.heap.size w0 w' ∧ KeepBut w w' g none := by
  have h' := Option.some.inj h
  have hu23 := Tryd.underlying23
  have hu62 := Tryd.underlying62
  have hu28 := Tryd.underlying28
  have hu34 := Tryd.underlying34
  have hu64 := Tryd.underlying64
  have HI := Aside0.mk hI
  have HB := Aside0.mk hB
  unfold bkCross at h'
  cases hA : bkAt b0 a1 with
  | false =>
    rw [if_pos hA] at h'
    simp only [Prod.mk.injEq] at h'
    obtain ⟨rfl, rfl, rfl⟩ := h'
    have HA := Aside0.mk (atV_f (g := g) hA)
    clear hA h hI hB
    go_enter Tryd.func16, Tryd.ntmps16
    go_wp2_with (first | (go_at_call 28; refine (bk_at.calls g b0 a1 w0 w HI.out HB.out).mono ?_; rintro e w' ⟨rfl, nd, rfl⟩; rw [HA.out]))
    go_ret2
    exact ⟨rfl, HI.out, (by repeat (first | (with_reducible first | exact HB.out | apply below_alloc | apply pw_below_drewN | apply below_drew1 | refine below_set ?_ (IsS61.ge HI.out)) | exact HB.out)), (by repeat (first | exact KeepBut.refl _ _ _ | apply keep_drewN | apply KeepBut.set_ | apply keep_alloc))⟩
  | true =>
    rw [if_neg (by rw [hA]; decide)] at h'
    have HP := Aside0.mk (at_in hA)
    obtain ⟨c0, c1, c2, c3⟩ := cells_of hI HP.out.1 HP.out.2
    have HA := Aside0.mk (atV_t (g := g) hA)
    have f0 := froz_of hI (a1.toNat * 4)
    have f1 := froz_of hI (a1.toNat * 4 + 1)
    have f2 := froz_of hI (a1.toNat * 4 + 2)
    have f3 := froz_of hI (a1.toNat * 4 + 3)
    cases hd : (bkGet b0 a1).f3 with
    | true =>
      rw [if_pos hd] at h'
      simp only [Prod.mk.injEq] at h'
      obtain ⟨rfl, rfl, rfl⟩ := h'
      rw [hd] at c3
      obtain ⟨n0, n1, n2, n3⟩ := none_of (hI.gg.below hB)
      clear hA h hI hB hd
      go_enter Tryd.func16, Tryd.ntmps16
      go_wp2_with (first | (go_at_call 28; refine (bk_at.calls g b0 a1 w0 w HI.out HB.out).mono ?_; rintro e w' ⟨rfl, nd, rfl⟩; rw [HA.out]))
      go_ret2
      exact ⟨rfl, S_set4 HI.out HP.out.1 HP.out.2 0 0 0 false, (by repeat (first | (with_reducible first | exact HB.out | apply below_alloc | apply pw_below_drewN | apply below_drew1 | refine below_set ?_ (IsS61.ge HI.out)) | exact HB.out)), (by repeat (first | exact KeepBut.refl _ _ _ | apply keep_drewN | apply KeepBut.set_ | apply keep_alloc))⟩
    | false =>
      rw [if_neg (by rw [hd]; decide)] at h'
      have HD := Aside0.mk hd
      rw [hd] at c3
      clear hA hd
      by_cases q2 : (bkGet b0 a1).f2 = 0
      · rw [if_pos q2] at h'
        simp only [Prod.mk.injEq] at h'
        obtain ⟨rfl, rfl, rfl⟩ := h'
        rw [q2] at c2
        clear h hI hB c0 c1 q2
        go_enter Tryd.func16, Tryd.ntmps16
        go_wp2_with (first | (go_at_call 28; refine (bk_at.calls g b0 a1 w0 w HI.out HB.out).mono ?_; rintro e w' ⟨rfl, nd, rfl⟩; rw [HA.out]))
        go_ret2
        exact ⟨rfl, HI.out, (by repeat (first | (with_reducible first | exact HB.out | apply below_alloc | apply pw_below_drewN | apply below_drew1 | refine below_set ?_ (IsS61.ge HI.out)) | exact HB.out)), (by repeat (first | exact KeepBut.refl _ _ _ | apply keep_drewN | apply KeepBut.set_ | apply keep_alloc))⟩
      · rw [if_neg q2] at h'
        simp only [Prod.mk.injEq] at h'
        obtain ⟨rfl, rfl, rfl⟩ := h'
        have q2b : ((bkGet b0 a1).f2 == 0) = false := beq_eq_false_iff_ne.2 q2
        have HS : Aside0 (∀ W, IsS61 w0 W g b0 → IsS61 w0 ((W.setCell ⟨g, a1.toNat * 4 + 1, none⟩ (.int .i64 (bkGet b0 a1).f2)).setCell ⟨g, a1.toNat * 4 + 2, none⟩ (.int .i64 0)) g (bkSet b0 a1 ⟨(bkGet b0 a1).f0, (bkGet b0 a1).f2, 0, (bkGet b0 a1).f3⟩)) := ⟨by
          intro W h
          have x0 := S_set h HP.out.1 HP.out.2 1 (.int .i64 (bkGet b0 a1).f2) ⟨(bkGet b0 a1).f0, (bkGet b0 a1).f2, (bkGet b0 a1).f2, (bkGet b0 a1).f3⟩ (by omega) rfl
          have x1 := S_set x0 HP.out.1 HP.out.2 2 (.int .i64 0) ⟨(bkGet b0 a1).f0, (bkGet b0 a1).f2, 0, (bkGet b0 a1).f3⟩ (by omega) (by rw [bkGet_set h.2.2.2 HP.out.1 HP.out.2]; rfl)
          rw [bkSet_set] at x1
          exact x1⟩
        clear h hI hB q2 c0
        go_enter Tryd.func16, Tryd.ntmps16
        go_wp2_with (first | (go_at_call 28; refine (bk_at.calls g b0 a1 w0 w HI.out HB.out).mono ?_; rintro e w' ⟨rfl, nd, rfl⟩; rw [HA.out]))
        go_ret2
        exact ⟨rfl, HS.out _ HI.out, (by repeat (first | (with_reducible first | exact HB.out | apply below_alloc | apply pw_below_drewN | apply below_drew1 | refine below_set ?_ (IsS61.ge HI.out)) | exact HB.out)), (by repeat (first | exact KeepBut.refl _ _ _ | apply keep_drewN | apply KeepBut.set_ | apply keep_alloc))⟩
end

end Go.Proofs.YtaoicceakgipgaaDoor.T
