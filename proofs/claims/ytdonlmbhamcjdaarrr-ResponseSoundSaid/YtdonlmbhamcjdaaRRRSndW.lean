/- What the law ResponseSound answers: true, where its own play never fails and what it has counted is Play's. No conditions. -/
import Derived.Test.YtdonlmbhamcjdaaRRRSndM
import Derived.Test.YtdonlmbhamcjdaaRRRSndS
import Derived.Test.YtdonlmbhamcjdaaRRRPlayW
import Derived.Test.YtdonlmbhamcjdaaRRRJx2
import Derived.Test.YtdonlmbhamcjdaaRRRJx9
import Derived.Test.YtdonlmbhamcjdaaRRRJx13
import Derived.Test.YtdonlmbhamcjdaaRRRJx12
import Derived.Test.YtdonlmbhamcjdaaRRRJx3
import Derived.Test.YtdonlmbhamcjdaaRRRJx10
import Derived.Test.YtdonlmbhamcjdaaRRRJx3
import Derived.Test.YtdonlmbhamcjdaaRRRWInv
import Derived.Deep.DeepCutAuto
import Derived.Deep.CutBlock
import Derived.Shelf.RegionOpenPlain
namespace Go.Proofs.YtdonlmbhamcjdaaRRR.J
open Go.RowKit Go.Proofs.YtdonlmbhamcjdaaRRRW.PrintWords Go.Proofs.YtdonlmbhamcjdaaRRRW.PrintLast Go.Proofs.YtdonlmbhamcjdaaRRRW.PrintMore
set_option linter.unusedVariables false
set_option linter.unusedSimpArgs false

open Go.Proofs.YtdonlmbhamcjdaaRRR.Ply
/-- what is asked of the numbers -/
def okO (l : List S43) (o : List Int) : Bool := decide (l.length ≤ 1048576) && l.all (fun x => decide (1 ≤ x.f0) && decide (x.f0 ≤ 1152921504606846976) && decide (1 ≤ x.f1) && decide (x.f1 ≤ 1152921504606846976)) && o.all (fun i => decide (0 ≤ i) && decide (i < (l.length : Int)))
def okT (l : List S43) (st rs : List Int) : Bool := st.all (fun s => decide (0 ≤ s) && decide (s ≤ 1073741824)) && decide (st.length = l.length) && decide (rs.length = l.length)
/-- the law's own play -/
def tithelaw22_ResponseSound.l1 (k : Nat) (x0 : List S43) (x1 x8 : List Int) (x10 : List Bool) (x11 x13 x15 x16 x17 : List Int) (x18 q p : Int) (ws : List Int) (n : Int) : Option Bool :=
  if (okO x0 x13 && okT x0 x1 x8 && decide ((x10.length : Int) = n) && decide (x10.length ≤ 4096) && okM x0 x1 (x13.map Int.toNat) x8 x10 0 m0) = true then
    ((tithelaw22_ints.f k (moL x0 x1 (x13.map Int.toNat) x10) x11).bind fun b => if b = true then tithelaw22_works.f k else some false) else none
mutual
def tithelaw22_ResponseSound.j0 : Nat → List (S43) → List Int → Bool → Int → Int → List Int → Int → Option (Bool)
 | 0, _, _, _, _, _, _, _ => none
 | k + 1, x0, x1, x63, x239000, x239001, x239002, x239003 => if x63 = true then ((tithelaw22_works.f k).bind fun t240 => (some t240)) else (tithelaw22_ResponseSound.l0 k x0 x1 0 x239000 x239001 x239002 x239003)
def tithelaw22_ResponseSound.l0 : Nat → List (S43) → List Int → Int → Int → Int → List Int → Int → Option (Bool)
 | 0, _, _, _, _, _, _, _ => none
 | k + 1, x0, x1, x7, x239000, x239001, x239002, x239003 => if x7 < (x1.length : Int) then (if 0 ≤ x7 then (if (rd x1 x7) < 0 then ((tithelaw22_works.f k).bind fun t243 => (some t243)) else (if (rd x1 x7) > 1000 then ((tithelaw22_works.f k).bind fun t244 => (some t244)) else (tithelaw22_ResponseSound.l0 k x0 x1 (wrap64 (x7 + 1)) x239000 x239001 x239002 x239003))) else (none)) else ((tithelaw22_twin.f x0).bind fun t245 => ((response_All.f k t245 (([(⟨x239000, x239001⟩ : S64)] : List (S64)))).bind fun bt251 => (if bt251.2.isNone = true then ((tithelaw22_ticks.f k x239000 x239001 x239002 x239003).bind fun t256 => ((tithelaw22_twin.f x0).bind fun t259 => ((response_Play.f k t259 x1 t256).bind fun bt262 => ((titheref20_Order.f k x0).bind fun bt266 => (if bt262.2.isNone = true then (if bt266.2 = 0 then (if (bt251.1.length : Int) = (x0.length : Int) then (tithelaw22_ResponseSound.j2 k x0 x1 bt251.1 t256 bt262.1 bt266.1 ((bt262.1.length : Int) != (x0.length : Int)) x239000 x239001 x239002 x239003) else (tithelaw22_ResponseSound.j2 k x0 x1 bt251.1 t256 bt262.1 bt266.1 true x239000 x239001 x239002 x239003)) else (tithelaw22_ResponseSound.j2 k x0 x1 bt251.1 t256 bt262.1 bt266.1 true x239000 x239001 x239002 x239003)) else (tithelaw22_ResponseSound.j2 k x0 x1 bt251.1 t256 bt262.1 bt266.1 true x239000 x239001 x239002 x239003)))))) else ((tithelaw22_works.f k).bind fun t305 => (some t305)))))
def tithelaw22_ResponseSound.j2 : Nat → List (S43) → List Int → List Int → List Bool → List Int → List Int → Bool → Int → Int → List Int → Int → Option (Bool)
 | 0, _, _, _, _, _, _, _, _, _, _, _ => none
 | k + 1, x0, x1, x8, x10, x11, x13, x130, x239000, x239001, x239002, x239003 => if x130 = true then (some false) else (if 0 ≤ (x0.length : Int) then (if ((x0.length : Int) : Int).toNat ≤ 35184372088832 then (tithelaw22_ResponseSound.l1 k x0 x1 x8 x10 x11 x13 (List.replicate ((x0.length : Int) : Int).toNat 0) (List.replicate ((x0.length : Int) : Int).toNat 0) (List.replicate ((x0.length : Int) : Int).toNat 0) 0 x239000 x239001 x239002 x239003) else (none)) else (none))
end
def tithelaw22_ResponseSound.f (k : Nat) (l0 : List (S43)) (l1 : List Int) (a2_0 : Int) (a2_1 : Int) (l2_2 : List Int) (a2_3 : Int) : Option (Bool) := (titheref20_Valid.f k l0).bind fun t239 => (if t239 = 0 then (if (l1.length : Int) = (l0.length : Int) then (if a2_0 < 1 then (tithelaw22_ResponseSound.j0 k l0 l1 true a2_0 a2_1 l2_2 a2_3) else (if a2_1 > 200 then (tithelaw22_ResponseSound.j0 k l0 l1 true a2_0 a2_1 l2_2 a2_3) else (if a2_0 > a2_1 then (tithelaw22_ResponseSound.j0 k l0 l1 true a2_0 a2_1 l2_2 a2_3) else (if a2_3 < 0 then (tithelaw22_ResponseSound.j0 k l0 l1 true a2_0 a2_1 l2_2 a2_3) else (tithelaw22_ResponseSound.j0 k l0 l1 (decide (a2_3 > 1500)) a2_0 a2_1 l2_2 a2_3))))) else (tithelaw22_ResponseSound.j0 k l0 l1 true a2_0 a2_1 l2_2 a2_3)) else (tithelaw22_ResponseSound.j0 k l0 l1 true a2_0 a2_1 l2_2 a2_3))
def tithelaw22_ResponseSound.T8 : Bool × List (List Nat × List Nat) := (true, [([], []), ([0], [0]), ([], []), ([2], [2]), ([3], [3]), ([1, 4, 1], [1, 4]), ([5], [5]), ([6], [6]), ([6], [6]), ([7, 5, 0, 1, 2, 3, 4, 5, 6, 7], [7]), ([8, 9, 0, 1, 2, 3, 4, 5, 6, 7, 8, 9], [8])])
def tithelaw22_ResponseSound.B8 : List Nat := [0, 1, 0, 4, 12, 31, 63, 127, 127, 255, 1023]
theorem tithelaw22_ResponseSound.tab8 : rtab .any (opsOf Try.f10 8) = tithelaw22_ResponseSound.T8 := by kernel_rfl
theorem tithelaw22_ResponseSound.bits8 : waitsOk tithelaw22_ResponseSound.T8.2 tithelaw22_ResponseSound.B8 = true := by kernel_rfl
set_option maxHeartbeats 8000000 in
set_option maxRecDepth 100000 in
theorem tithelaw22_ResponseSound.calls (k : Nat) (A0 : Option Addr) (c0 : Nat) (l0 : List (S43)) (A1 : Option Addr) (c1 : Nat) (l1 : List Int) (a2_0 : Int) (a2_1 : Int) (A2_2 : Option Addr) (c2_2 : Nat) (l2_2 : List Int) (a2_3 : Int) (r : Bool) (w : World) (hr0 : Kd.C k43 w A0 l0.length l0) (hc0 : l0.length ≤ c0) (hr1 : Kd.C (Kd.int .i64) w A1 l1.length l1) (hc1 : l1.length ≤ c1) (hr2_2 : Kd.C (Kd.int .i64) w A2_2 l2_2.length l2_2) (hc2_2 : l2_2.length ≤ c2_2) (h : tithelaw22_ResponseSound.f k l0 l1 a2_0 a2_1 l2_2 a2_3 = some r) :
  Calls Try.prog 10 #[.slice A0 l0.length c0, .slice A1 l1.length c1, .agg #[.int .i64 a2_0, .int .i64 a2_1, .slice A2_2 l2_2.length c2_2, .int .i64 a2_3]] w fun e w' => e = .returned (.bool r) ∧ Below w.heap.size w w' := by
 have hne_ := errW_none
 have hns_ := errW_some
 have hu66 := Try.underlying66
 have hu64 := Try.underlying64
 have hu25 := Try.underlying25
 have hu72 := Try.underlying72
 have HR0 := Aside0.mk hr0
 have HC0 := Aside0.mk hc0
 clear hr0 hc0
 have HR1 := Aside0.mk hr1
 have HC1 := Aside0.mk hc1
 clear hr1 hc1
 have HR2_2 := Aside0.mk hr2_2
 have HC2_2 := Aside0.mk hc2_2
 clear hr2_2 hc2_2
 have HB := Aside0.mk (Below.refl w.heap.size w)
 have H : ((titheref20_Valid.f k l0).bind fun t239 => (if t239 = 0 then (if (l1.length : Int) = (l0.length : Int) then (if a2_0 < 1 then (tithelaw22_ResponseSound.j0 k l0 l1 true a2_0 a2_1 l2_2 a2_3) else (if a2_1 > 200 then (tithelaw22_ResponseSound.j0 k l0 l1 true a2_0 a2_1 l2_2 a2_3) else (if a2_0 > a2_1 then (tithelaw22_ResponseSound.j0 k l0 l1 true a2_0 a2_1 l2_2 a2_3) else (if a2_3 < 0 then (tithelaw22_ResponseSound.j0 k l0 l1 true a2_0 a2_1 l2_2 a2_3) else (tithelaw22_ResponseSound.j0 k l0 l1 (decide (a2_3 > 1500)) a2_0 a2_1 l2_2 a2_3))))) else (tithelaw22_ResponseSound.j0 k l0 l1 true a2_0 a2_1 l2_2 a2_3)) else (tithelaw22_ResponseSound.j0 k l0 l1 true a2_0 a2_1 l2_2 a2_3))) = some r := h
 clear h
 have HC4 := Aside0.mk H
 clear H
 go_enter Try.func10, Try.ntmps10
 go_upto_region 1 with (first | ((with_reducible refine gate_dst (N := 5) rfl ?_); (try (refine gate_guard (by rfl) ?_; dsimp only)); refine box_event ?hg (N := 5) ?hd (cs := #[.int .i64 a2_0, .int .i64 a2_1, .slice A2_2 l2_2.length c2_2, .int .i64 a2_3]) (t := 66) ?hr ?_; (case hd => rfl); (case hg => rfl); (case hr => first | (go_simp; done) | (go_simp; rfl)); intro gb238 hg w5 hbox hb; have n0_ := Aside0.mk (below_step (by repeat (first | (with_reducible first | exact HB.out | apply below_alloc | apply pw_below_drewN | apply below_drew1) | exact HB.out)) hb); have n1_ := Aside0.mk (hbox); have n2_ := Aside0.mk ((by rw [hg]; exact (below_size (by repeat (first | (with_reducible first | exact HB.out | apply below_alloc | apply pw_below_drewN | apply below_drew1) | exact HB.out))) : w.heap.size ≤ gb238)); have n3_ := Aside0.mk ((by rw [hg]; exact (below_size (by repeat (first | (with_reducible first | exact HB.out | apply below_alloc | apply pw_below_drewN | apply below_drew1) | exact HB.out))) : w.heap.size ≤ gb238)); clear HB; have HB := n0_; have BK238 := n1_; have GW238 := n2_; have GE238 := n3_; clear n0_ n1_ n2_ n3_; clear hb hbox hg))
 (try simp only [Act.put, List.setIfInBounds_toArray, List.set_cons_zero, List.set_cons_succ])
 go_cut [63] (fun v63 wc => ∃ (kq : Nat) (x63_3 : Bool), v63 = .bool x63_3 ∧ Aside0 (tithelaw22_ResponseSound.j0 kq l0 l1 x63_3 a2_0 a2_1 l2_2 a2_3 = some r) ∧ Aside0 (kq ≤ k) ∧ Aside0 (wc.heap[gb238]? = some (.cells #[.int .i64 a2_0, .int .i64 a2_1, (.slice A2_2 l2_2.length c2_2), .int .i64 a2_3] 66 (0, 0))) ∧ Aside0 (Below w.heap.size w wc))
 case first =>
  as_aux_lemma =>
  have H := HC4.out
  clear HC4
  replace H := Option.bind_eq_some_iff.mp H
  obtain ⟨t239, A60, H⟩ := H
  replace H : (if t239 = 0 then (if (l1.length : Int) = (l0.length : Int) then (if a2_0 < 1 then (tithelaw22_ResponseSound.j0 k l0 l1 true a2_0 a2_1 l2_2 a2_3) else (if a2_1 > 200 then (tithelaw22_ResponseSound.j0 k l0 l1 true a2_0 a2_1 l2_2 a2_3) else (if a2_0 > a2_1 then (tithelaw22_ResponseSound.j0 k l0 l1 true a2_0 a2_1 l2_2 a2_3) else (if a2_3 < 0 then (tithelaw22_ResponseSound.j0 k l0 l1 true a2_0 a2_1 l2_2 a2_3) else (tithelaw22_ResponseSound.j0 k l0 l1 (decide (a2_3 > 1500)) a2_0 a2_1 l2_2 a2_3))))) else (tithelaw22_ResponseSound.j0 k l0 l1 true a2_0 a2_1 l2_2 a2_3)) else (tithelaw22_ResponseSound.j0 k l0 l1 true a2_0 a2_1 l2_2 a2_3)) = some r := H
  have A6 := Aside0.mk A60
  clear A60
  by_cases c7 : t239 = 0
  ·rw [if_pos c7] at H
   have c7b0 : (t239 == 0) = true := beq_iff_eq.mpr c7
   have c7b1 : (t239 != 0) = false := bne_eq_false_iff_eq.mpr c7
   clear c7
   (first | rw [c7b0] | (simp only [i64_w, i32_w]; rw [c7b0]) | skip)
   by_cases c8 : (l1.length : Int) = (l0.length : Int)
   ·rw [if_pos c8] at H
    have c8b0 : ((l1.length : Int) == (l0.length : Int)) = true := beq_iff_eq.mpr c8
    have c8b1 : ((l1.length : Int) != (l0.length : Int)) = false := bne_eq_false_iff_eq.mpr c8
    have c8b2 : (l1.length == l0.length) = true := by first | simpa using c8 | (simp at c8 ⊢; omega)
    clear c8
    by_cases c9 : a2_0 < 1
    ·rw [if_pos c9] at H
     have c9b0 : decide (a2_0 < 1) = true := decide_eq_true c9
     clear c9
     have H' := Aside0.mk H
     clear H
     go_wp2_with (first | ((with_reducible refine gate_callee (f := 21) rfl ?_); refine goesL_ (some 24) rfl rfl Try.func21 (by kernel_rfl) rfl #[.slice A0 l0.length c0] rfl (by (try simp only [List.map_toArray, List.map_cons, List.map_nil]); first | done | rfl | (simp only [List.length_drop, List.length_take]; rfl)) ?_; (with_reducible refine (titheref20_Valid.calls k _ _ l0 t239 _ ?side1 ?side2 A6.out).mono ?_); (case side1 => repeat (first | exact (Kd.C_below HR0.out HB.out) | (with_reducible refine Kd.C_alloc ?_ _) | (with_reducible refine Kd.C_drewN ?_ _) | (with_reducible refine Kd.C_drew ?_))); (case side2 => exact HC0.out); rintro e w10 ⟨rfl, hb⟩; refine ⟨_, rfl, ?_⟩; have n0_ := Aside0.mk (blk_below (g := gb238) (o := .cells #[.int .i64 a2_0, .int .i64 a2_1, .slice A2_2 l2_2.length c2_2, .int .i64 a2_3] 66 (0, 0)) (by (with_reducible repeat (first | refine blk_drewN ?_ _ | refine blk_drew ?_ | refine blk_alloc ?_ _)); exact BK238.out) hb); have n1_ := Aside0.mk (below_step (by repeat (first | (with_reducible first | exact HB.out | apply below_alloc | apply pw_below_drewN | apply below_drew1 | refine below_set ?_ GE238.out) | exact HB.out)) hb); clear BK238; clear HB; have BK238 := n0_; have HB := n1_; clear n0_ n1_; (try clear hb); (try clear hb2); (try clear hk); (try clear hi); have hcz11_0 : w10.cell? ⟨gb238, 0, none⟩ = some (.int .i64 a2_0) := (blk_cell BK238.out 0).trans (by rfl); have hcz11_1 : w10.cell? ⟨gb238, 1, none⟩ = some (.int .i64 a2_1) := (blk_cell BK238.out 1).trans (by rfl); have hcz11_2 : w10.cell? ⟨gb238, 2, none⟩ = some (.slice A2_2 l2_2.length c2_2) := (blk_cell BK238.out 2).trans (by rfl); have hcz11_3 : w10.cell? ⟨gb238, 3, none⟩ = some (.int .i64 a2_3) := (blk_cell BK238.out 3).trans (by rfl); have hfz11_0 := blk_frozen BK238.out 0; have hfz11_1 := blk_frozen BK238.out 1; have hfz11_2 := blk_frozen BK238.out 2; have hfz11_3 := blk_frozen BK238.out 3))
     go_meet
     case rel => exact ⟨_, (true), (by first | rfl | (simp; done) | (simp [*]; done)), H', ⟨by first | omega | exact Nat.le_refl _⟩, ⟨by (with_reducible repeat (first | refine blk_drewN ?_ _ | refine blk_drew ?_ | refine blk_alloc ?_ _)); exact BK238.out⟩, ⟨by repeat (first | (with_reducible first | exact HB.out | apply below_alloc | apply pw_below_drewN | apply below_drew1 | refine below_set ?_ GE238.out) | exact HB.out)⟩⟩
    ·rw [if_neg c9] at H
     have c9b0 : decide (a2_0 < 1) = false := decide_eq_false c9
     clear c9
     by_cases c12 : a2_1 > 200
     ·rw [if_pos c12] at H
      have c12b0 : decide (200 < a2_1) = true := decide_eq_true c12
      clear c12
      have H' := Aside0.mk H
      clear H
      go_wp2_with (first | ((with_reducible refine gate_callee (f := 21) rfl ?_); refine goesL_ (some 24) rfl rfl Try.func21 (by kernel_rfl) rfl #[.slice A0 l0.length c0] rfl (by (try simp only [List.map_toArray, List.map_cons, List.map_nil]); first | done | rfl | (simp only [List.length_drop, List.length_take]; rfl)) ?_; (with_reducible refine (titheref20_Valid.calls k _ _ l0 t239 _ ?side1 ?side2 A6.out).mono ?_); (case side1 => repeat (first | exact (Kd.C_below HR0.out HB.out) | (with_reducible refine Kd.C_alloc ?_ _) | (with_reducible refine Kd.C_drewN ?_ _) | (with_reducible refine Kd.C_drew ?_))); (case side2 => exact HC0.out); rintro e w13 ⟨rfl, hb⟩; refine ⟨_, rfl, ?_⟩; have n0_ := Aside0.mk (blk_below (g := gb238) (o := .cells #[.int .i64 a2_0, .int .i64 a2_1, .slice A2_2 l2_2.length c2_2, .int .i64 a2_3] 66 (0, 0)) (by (with_reducible repeat (first | refine blk_drewN ?_ _ | refine blk_drew ?_ | refine blk_alloc ?_ _)); exact BK238.out) hb); have n1_ := Aside0.mk (below_step (by repeat (first | (with_reducible first | exact HB.out | apply below_alloc | apply pw_below_drewN | apply below_drew1 | refine below_set ?_ GE238.out) | exact HB.out)) hb); clear BK238; clear HB; have BK238 := n0_; have HB := n1_; clear n0_ n1_; (try clear hb); (try clear hb2); (try clear hk); (try clear hi); have hcz14_0 : w13.cell? ⟨gb238, 0, none⟩ = some (.int .i64 a2_0) := (blk_cell BK238.out 0).trans (by rfl); have hcz14_1 : w13.cell? ⟨gb238, 1, none⟩ = some (.int .i64 a2_1) := (blk_cell BK238.out 1).trans (by rfl); have hcz14_2 : w13.cell? ⟨gb238, 2, none⟩ = some (.slice A2_2 l2_2.length c2_2) := (blk_cell BK238.out 2).trans (by rfl); have hcz14_3 : w13.cell? ⟨gb238, 3, none⟩ = some (.int .i64 a2_3) := (blk_cell BK238.out 3).trans (by rfl); have hfz14_0 := blk_frozen BK238.out 0; have hfz14_1 := blk_frozen BK238.out 1; have hfz14_2 := blk_frozen BK238.out 2; have hfz14_3 := blk_frozen BK238.out 3))
      go_meet
      case rel => exact ⟨_, (true), (by first | rfl | (simp; done) | (simp [*]; done)), H', ⟨by first | omega | exact Nat.le_refl _⟩, ⟨by (with_reducible repeat (first | refine blk_drewN ?_ _ | refine blk_drew ?_ | refine blk_alloc ?_ _)); exact BK238.out⟩, ⟨by repeat (first | (with_reducible first | exact HB.out | apply below_alloc | apply pw_below_drewN | apply below_drew1 | refine below_set ?_ GE238.out) | exact HB.out)⟩⟩
     ·rw [if_neg c12] at H
      have c12b0 : decide (200 < a2_1) = false := decide_eq_false c12
      clear c12
      by_cases c15 : a2_0 > a2_1
      ·rw [if_pos c15] at H
       have c15b0 : decide (a2_1 < a2_0) = true := decide_eq_true c15
       clear c15
       have H' := Aside0.mk H
       clear H
       go_wp2_with (first | ((with_reducible refine gate_callee (f := 21) rfl ?_); refine goesL_ (some 24) rfl rfl Try.func21 (by kernel_rfl) rfl #[.slice A0 l0.length c0] rfl (by (try simp only [List.map_toArray, List.map_cons, List.map_nil]); first | done | rfl | (simp only [List.length_drop, List.length_take]; rfl)) ?_; (with_reducible refine (titheref20_Valid.calls k _ _ l0 t239 _ ?side1 ?side2 A6.out).mono ?_); (case side1 => repeat (first | exact (Kd.C_below HR0.out HB.out) | (with_reducible refine Kd.C_alloc ?_ _) | (with_reducible refine Kd.C_drewN ?_ _) | (with_reducible refine Kd.C_drew ?_))); (case side2 => exact HC0.out); rintro e w16 ⟨rfl, hb⟩; refine ⟨_, rfl, ?_⟩; have n0_ := Aside0.mk (blk_below (g := gb238) (o := .cells #[.int .i64 a2_0, .int .i64 a2_1, .slice A2_2 l2_2.length c2_2, .int .i64 a2_3] 66 (0, 0)) (by (with_reducible repeat (first | refine blk_drewN ?_ _ | refine blk_drew ?_ | refine blk_alloc ?_ _)); exact BK238.out) hb); have n1_ := Aside0.mk (below_step (by repeat (first | (with_reducible first | exact HB.out | apply below_alloc | apply pw_below_drewN | apply below_drew1 | refine below_set ?_ GE238.out) | exact HB.out)) hb); clear BK238; clear HB; have BK238 := n0_; have HB := n1_; clear n0_ n1_; (try clear hb); (try clear hb2); (try clear hk); (try clear hi); have hcz17_0 : w16.cell? ⟨gb238, 0, none⟩ = some (.int .i64 a2_0) := (blk_cell BK238.out 0).trans (by rfl); have hcz17_1 : w16.cell? ⟨gb238, 1, none⟩ = some (.int .i64 a2_1) := (blk_cell BK238.out 1).trans (by rfl); have hcz17_2 : w16.cell? ⟨gb238, 2, none⟩ = some (.slice A2_2 l2_2.length c2_2) := (blk_cell BK238.out 2).trans (by rfl); have hcz17_3 : w16.cell? ⟨gb238, 3, none⟩ = some (.int .i64 a2_3) := (blk_cell BK238.out 3).trans (by rfl); have hfz17_0 := blk_frozen BK238.out 0; have hfz17_1 := blk_frozen BK238.out 1; have hfz17_2 := blk_frozen BK238.out 2; have hfz17_3 := blk_frozen BK238.out 3))
       go_meet
       case rel => exact ⟨_, (true), (by first | rfl | (simp; done) | (simp [*]; done)), H', ⟨by first | omega | exact Nat.le_refl _⟩, ⟨by (with_reducible repeat (first | refine blk_drewN ?_ _ | refine blk_drew ?_ | refine blk_alloc ?_ _)); exact BK238.out⟩, ⟨by repeat (first | (with_reducible first | exact HB.out | apply below_alloc | apply pw_below_drewN | apply below_drew1 | refine below_set ?_ GE238.out) | exact HB.out)⟩⟩
      ·rw [if_neg c15] at H
       have c15b0 : decide (a2_1 < a2_0) = false := decide_eq_false c15
       clear c15
       by_cases c18 : a2_3 < 0
       ·rw [if_pos c18] at H
        have c18b0 : decide (a2_3 < 0) = true := decide_eq_true c18
        clear c18
        have H' := Aside0.mk H
        clear H
        go_wp2_with (first | ((with_reducible refine gate_callee (f := 21) rfl ?_); refine goesL_ (some 24) rfl rfl Try.func21 (by kernel_rfl) rfl #[.slice A0 l0.length c0] rfl (by (try simp only [List.map_toArray, List.map_cons, List.map_nil]); first | done | rfl | (simp only [List.length_drop, List.length_take]; rfl)) ?_; (with_reducible refine (titheref20_Valid.calls k _ _ l0 t239 _ ?side1 ?side2 A6.out).mono ?_); (case side1 => repeat (first | exact (Kd.C_below HR0.out HB.out) | (with_reducible refine Kd.C_alloc ?_ _) | (with_reducible refine Kd.C_drewN ?_ _) | (with_reducible refine Kd.C_drew ?_))); (case side2 => exact HC0.out); rintro e w19 ⟨rfl, hb⟩; refine ⟨_, rfl, ?_⟩; have n0_ := Aside0.mk (blk_below (g := gb238) (o := .cells #[.int .i64 a2_0, .int .i64 a2_1, .slice A2_2 l2_2.length c2_2, .int .i64 a2_3] 66 (0, 0)) (by (with_reducible repeat (first | refine blk_drewN ?_ _ | refine blk_drew ?_ | refine blk_alloc ?_ _)); exact BK238.out) hb); have n1_ := Aside0.mk (below_step (by repeat (first | (with_reducible first | exact HB.out | apply below_alloc | apply pw_below_drewN | apply below_drew1 | refine below_set ?_ GE238.out) | exact HB.out)) hb); clear BK238; clear HB; have BK238 := n0_; have HB := n1_; clear n0_ n1_; (try clear hb); (try clear hb2); (try clear hk); (try clear hi); have hcz20_0 : w19.cell? ⟨gb238, 0, none⟩ = some (.int .i64 a2_0) := (blk_cell BK238.out 0).trans (by rfl); have hcz20_1 : w19.cell? ⟨gb238, 1, none⟩ = some (.int .i64 a2_1) := (blk_cell BK238.out 1).trans (by rfl); have hcz20_2 : w19.cell? ⟨gb238, 2, none⟩ = some (.slice A2_2 l2_2.length c2_2) := (blk_cell BK238.out 2).trans (by rfl); have hcz20_3 : w19.cell? ⟨gb238, 3, none⟩ = some (.int .i64 a2_3) := (blk_cell BK238.out 3).trans (by rfl); have hfz20_0 := blk_frozen BK238.out 0; have hfz20_1 := blk_frozen BK238.out 1; have hfz20_2 := blk_frozen BK238.out 2; have hfz20_3 := blk_frozen BK238.out 3))
        go_meet
        case rel => exact ⟨_, (true), (by first | rfl | (simp; done) | (simp [*]; done)), H', ⟨by first | omega | exact Nat.le_refl _⟩, ⟨by (with_reducible repeat (first | refine blk_drewN ?_ _ | refine blk_drew ?_ | refine blk_alloc ?_ _)); exact BK238.out⟩, ⟨by repeat (first | (with_reducible first | exact HB.out | apply below_alloc | apply pw_below_drewN | apply below_drew1 | refine below_set ?_ GE238.out) | exact HB.out)⟩⟩
       ·rw [if_neg c18] at H
        have c18b0 : decide (a2_3 < 0) = false := decide_eq_false c18
        clear c18
        have H' := Aside0.mk H
        clear H
        go_wp2_with (first | ((with_reducible refine gate_callee (f := 21) rfl ?_); refine goesL_ (some 24) rfl rfl Try.func21 (by kernel_rfl) rfl #[.slice A0 l0.length c0] rfl (by (try simp only [List.map_toArray, List.map_cons, List.map_nil]); first | done | rfl | (simp only [List.length_drop, List.length_take]; rfl)) ?_; (with_reducible refine (titheref20_Valid.calls k _ _ l0 t239 _ ?side1 ?side2 A6.out).mono ?_); (case side1 => repeat (first | exact (Kd.C_below HR0.out HB.out) | (with_reducible refine Kd.C_alloc ?_ _) | (with_reducible refine Kd.C_drewN ?_ _) | (with_reducible refine Kd.C_drew ?_))); (case side2 => exact HC0.out); rintro e w21 ⟨rfl, hb⟩; refine ⟨_, rfl, ?_⟩; have n0_ := Aside0.mk (blk_below (g := gb238) (o := .cells #[.int .i64 a2_0, .int .i64 a2_1, .slice A2_2 l2_2.length c2_2, .int .i64 a2_3] 66 (0, 0)) (by (with_reducible repeat (first | refine blk_drewN ?_ _ | refine blk_drew ?_ | refine blk_alloc ?_ _)); exact BK238.out) hb); have n1_ := Aside0.mk (below_step (by repeat (first | (with_reducible first | exact HB.out | apply below_alloc | apply pw_below_drewN | apply below_drew1 | refine below_set ?_ GE238.out) | exact HB.out)) hb); clear BK238; clear HB; have BK238 := n0_; have HB := n1_; clear n0_ n1_; (try clear hb); (try clear hb2); (try clear hk); (try clear hi); have hcz22_0 : w21.cell? ⟨gb238, 0, none⟩ = some (.int .i64 a2_0) := (blk_cell BK238.out 0).trans (by rfl); have hcz22_1 : w21.cell? ⟨gb238, 1, none⟩ = some (.int .i64 a2_1) := (blk_cell BK238.out 1).trans (by rfl); have hcz22_2 : w21.cell? ⟨gb238, 2, none⟩ = some (.slice A2_2 l2_2.length c2_2) := (blk_cell BK238.out 2).trans (by rfl); have hcz22_3 : w21.cell? ⟨gb238, 3, none⟩ = some (.int .i64 a2_3) := (blk_cell BK238.out 3).trans (by rfl); have hfz22_0 := blk_frozen BK238.out 0; have hfz22_1 := blk_frozen BK238.out 1; have hfz22_2 := blk_frozen BK238.out 2; have hfz22_3 := blk_frozen BK238.out 3))
        go_meet
        case rel => exact ⟨_, (decide (a2_3 > 1500)), (by first | rfl | (simp; done) | (simp [*]; done)), H', ⟨by first | omega | exact Nat.le_refl _⟩, ⟨by (with_reducible repeat (first | refine blk_drewN ?_ _ | refine blk_drew ?_ | refine blk_alloc ?_ _)); exact BK238.out⟩, ⟨by repeat (first | (with_reducible first | exact HB.out | apply below_alloc | apply pw_below_drewN | apply below_drew1 | refine below_set ?_ GE238.out) | exact HB.out)⟩⟩
   ·rw [if_neg c8] at H
    have c8b0 : ((l1.length : Int) == (l0.length : Int)) = false := beq_eq_false_iff_ne.mpr c8
    have c8b1 : ((l1.length : Int) != (l0.length : Int)) = true := bne_iff_ne.mpr c8
    have c8b2 : (l1.length == l0.length) = false := by first | simpa using c8 | (simp at c8 ⊢; omega)
    have H' := Aside0.mk H
    clear H
    go_wp2_with (first | ((with_reducible refine gate_callee (f := 21) rfl ?_); refine goesL_ (some 24) rfl rfl Try.func21 (by kernel_rfl) rfl #[.slice A0 l0.length c0] rfl (by (try simp only [List.map_toArray, List.map_cons, List.map_nil]); first | done | rfl | (simp only [List.length_drop, List.length_take]; rfl)) ?_; (with_reducible refine (titheref20_Valid.calls k _ _ l0 t239 _ ?side1 ?side2 A6.out).mono ?_); (case side1 => repeat (first | exact (Kd.C_below HR0.out HB.out) | (with_reducible refine Kd.C_alloc ?_ _) | (with_reducible refine Kd.C_drewN ?_ _) | (with_reducible refine Kd.C_drew ?_))); (case side2 => exact HC0.out); rintro e w23 ⟨rfl, hb⟩; refine ⟨_, rfl, ?_⟩; have n0_ := Aside0.mk (blk_below (g := gb238) (o := .cells #[.int .i64 a2_0, .int .i64 a2_1, .slice A2_2 l2_2.length c2_2, .int .i64 a2_3] 66 (0, 0)) (by (with_reducible repeat (first | refine blk_drewN ?_ _ | refine blk_drew ?_ | refine blk_alloc ?_ _)); exact BK238.out) hb); have n1_ := Aside0.mk (below_step (by repeat (first | (with_reducible first | exact HB.out | apply below_alloc | apply pw_below_drewN | apply below_drew1 | refine below_set ?_ GE238.out) | exact HB.out)) hb); clear BK238; clear HB; have BK238 := n0_; have HB := n1_; clear n0_ n1_; (try clear hb); (try clear hb2); (try clear hk); (try clear hi)))
    go_meet
    case rel => exact ⟨_, (true), (by first | rfl | (simp; done) | (simp [*]; done)), H', ⟨by first | omega | exact Nat.le_refl _⟩, ⟨by (with_reducible repeat (first | refine blk_drewN ?_ _ | refine blk_drew ?_ | refine blk_alloc ?_ _)); exact BK238.out⟩, ⟨by repeat (first | (with_reducible first | exact HB.out | apply below_alloc | apply pw_below_drewN | apply below_drew1 | refine below_set ?_ GE238.out) | exact HB.out)⟩⟩
  ·rw [if_neg c7] at H
   have c7b0 : (t239 == 0) = false := beq_eq_false_iff_ne.mpr c7
   have c7b1 : (t239 != 0) = true := bne_iff_ne.mpr c7
   (first | rw [c7b0] | (simp only [i64_w, i32_w]; rw [c7b0]) | skip)
   have H' := Aside0.mk H
   clear H
   go_wp2_with (first | ((with_reducible refine gate_callee (f := 21) rfl ?_); refine goesL_ (some 24) rfl rfl Try.func21 (by kernel_rfl) rfl #[.slice A0 l0.length c0] rfl (by (try simp only [List.map_toArray, List.map_cons, List.map_nil]); first | done | rfl | (simp only [List.length_drop, List.length_take]; rfl)) ?_; (with_reducible refine (titheref20_Valid.calls k _ _ l0 t239 _ ?side1 ?side2 A6.out).mono ?_); (case side1 => repeat (first | exact (Kd.C_below HR0.out HB.out) | (with_reducible refine Kd.C_alloc ?_ _) | (with_reducible refine Kd.C_drewN ?_ _) | (with_reducible refine Kd.C_drew ?_))); (case side2 => exact HC0.out); rintro e w24 ⟨rfl, hb⟩; refine ⟨_, rfl, ?_⟩; have n0_ := Aside0.mk (blk_below (g := gb238) (o := .cells #[.int .i64 a2_0, .int .i64 a2_1, .slice A2_2 l2_2.length c2_2, .int .i64 a2_3] 66 (0, 0)) (by (with_reducible repeat (first | refine blk_drewN ?_ _ | refine blk_drew ?_ | refine blk_alloc ?_ _)); exact BK238.out) hb); have n1_ := Aside0.mk (below_step (by repeat (first | (with_reducible first | exact HB.out | apply below_alloc | apply pw_below_drewN | apply below_drew1 | refine below_set ?_ GE238.out) | exact HB.out)) hb); clear BK238; clear HB; have BK238 := n0_; have HB := n1_; clear n0_ n1_; (try clear hb); (try clear hb2); (try clear hk); (try clear hi)))
   go_meet
   case rel => exact ⟨_, (true), (by first | rfl | (simp; done) | (simp [*]; done)), H', ⟨by first | omega | exact Nat.le_refl _⟩, ⟨by (with_reducible repeat (first | refine blk_drewN ?_ _ | refine blk_drew ?_ | refine blk_alloc ?_ _)); exact BK238.out⟩, ⟨by repeat (first | (with_reducible first | exact HB.out | apply below_alloc | apply pw_below_drewN | apply below_drew1 | refine below_set ?_ GE238.out) | exact HB.out)⟩⟩
 case rest =>
  clear HC4
  try clear c1
  try clear c2
  try clear p2
  try clear c7
  try clear c7b0
  try clear c7b1
  try clear c8
  try clear c8b0
  try clear c8b1
  try clear c8b2
  try clear c9
  try clear c9b0
  try clear c10
  try clear c12
  try clear c12b0
  try clear c15
  try clear c15b0
  try clear c18
  try clear c18b0
  try clear c21
  try clear hcz11_0
  try clear hcz11_1
  try clear hcz11_2
  try clear hcz11_3
  try clear hcz14_0
  try clear hcz14_1
  try clear hcz14_2
  try clear hcz14_3
  try clear hcz17_0
  try clear hcz17_1
  try clear hcz17_2
  try clear hcz17_3
  try clear hcz20_0
  try clear hcz20_1
  try clear hcz20_2
  try clear hcz20_3
  try clear hcz22_0
  try clear hcz22_1
  try clear hcz22_2
  try clear hcz22_3
  try clear hfz11_0
  try clear hfz11_1
  try clear hfz11_2
  try clear hfz11_3
  try clear hfz14_0
  try clear hfz14_1
  try clear hfz14_2
  try clear hfz14_3
  try clear hfz17_0
  try clear hfz17_1
  try clear hfz17_2
  try clear hfz17_3
  try clear hfz20_0
  try clear hfz20_1
  try clear hfz20_2
  try clear hfz20_3
  try clear hfz22_0
  try clear hfz22_1
  try clear hfz22_2
  try clear hfz22_3
  obtain ⟨kq, x63_3, rfl, HA, HJ3, BK238, HB⟩ := hcut
  cases kq with
  | zero => exact absurd HA.out (by simp [tithelaw22_ResponseSound.j0])
  | succ kj3 =>
   have H := HA.out
   clear HA
   simp only [tithelaw22_ResponseSound.j0] at H
   by_cases c25 : x63_3 = true
   ·subst c25
    have H1 : ((tithelaw22_works.f kj3).bind fun t240 => (some t240)) = some r := by rw [if_pos rfl] at H; exact H
    clear H
    have H := H1
    clear H1
    replace H := Option.bind_eq_some_iff.mp H
    obtain ⟨t240, A260, H⟩ := H
    replace H : (some t240) = some r := H
    have A26 := Aside0.mk A260
    clear A260
    obtain rfl := Option.some.inj H
    go_wp2_with (first | ((with_reducible refine gate_callee (f := 39) rfl ?_); refine goesL_ (some 64) rfl rfl Try.func39 (by kernel_rfl) rfl #[] rfl (by (try simp only [List.map_toArray, List.map_cons, List.map_nil]); first | done | rfl | (simp only [List.length_drop, List.length_take]; rfl)) ?_; (with_reducible refine (tithelaw22_works.calls kj3  t240 _ A26.out).mono ?_); rintro e w27 ⟨rfl, hb⟩; refine ⟨_, rfl, ?_⟩; have n0_ := Aside0.mk (blk_below (g := gb238) (o := .cells #[.int .i64 a2_0, .int .i64 a2_1, .slice A2_2 l2_2.length c2_2, .int .i64 a2_3] 66 (0, 0)) (by (with_reducible repeat (first | refine blk_drewN ?_ _ | refine blk_drew ?_ | refine blk_alloc ?_ _)); exact BK238.out) hb); have n1_ := Aside0.mk (below_step (by repeat (first | (with_reducible first | exact HB.out | apply below_alloc | apply pw_below_drewN | apply below_drew1 | refine below_set ?_ GE238.out) | exact HB.out)) hb); clear BK238; clear HB; have BK238 := n0_; have HB := n1_; clear n0_ n1_; (try clear hb); (try clear hb2); (try clear hk); (try clear hi)))
    go_ret
    exact ⟨by first | rfl | (simp [errW_none, errW_some] <;> rfl) | (simp [*, errW_none, errW_some] <;> rfl), by repeat (first | (with_reducible first | exact HB.out | apply below_alloc | apply pw_below_drewN | apply below_drew1 | refine below_set ?_ GE238.out) | exact HB.out)⟩
   ·replace c25 := Bool.eq_false_iff.mpr c25
    subst c25
    have H1 : (tithelaw22_ResponseSound.l0 kj3 l0 l1 0 a2_0 a2_1 l2_2 a2_3) = some r := by rw [if_neg (show ¬ (false = true) by decide)] at H; exact H
    clear H
    have H := H1
    clear H1
    have H' := Aside0.mk H
    clear H
    go_wp2
    go_loopg [7] kj3 (fun kq v7 w' => ∃ (x7_2 : Int), v7 = .int .i64 x7_2 ∧ Aside0 (tithelaw22_ResponseSound.l0 kq l0 l1 x7_2 a2_0 a2_1 l2_2 a2_3 = some r) ∧ Aside0 (kq ≤ kj3) ∧ Aside0 (w'.heap[gb238]? = some (.cells #[.int .i64 a2_0, .int .i64 a2_1, (.slice A2_2 l2_2.length c2_2), .int .i64 a2_3] 66 (0, 0))) ∧ Aside0 (Below w.heap.size w w'))
    case atStart => exact ⟨(0), (by first | rfl | (simp; done) | (simp [*]; done)), H', ⟨Nat.le_refl _⟩, ⟨by (with_reducible repeat (first | refine blk_drewN ?_ _ | refine blk_drew ?_ | refine blk_alloc ?_ _)); exact BK238.out⟩, ⟨by repeat (first | (with_reducible first | exact HB.out | apply below_alloc | apply pw_below_drewN | apply below_drew1 | refine below_set ?_ GE238.out) | exact HB.out)⟩⟩
    case round =>
     clear H'
     try clear c1
     try clear c2
     try clear p2
     try clear c3
     try clear c7
     try clear c7b0
     try clear c7b1
     try clear c8
     try clear c8b0
     try clear c8b1
     try clear c8b2
     try clear c9
     try clear c9b0
     try clear c10
     try clear c12
     try clear c12b0
     try clear c15
     try clear c15b0
     try clear c18
     try clear c18b0
     try clear c21
     try clear c25
     try clear hcz11_0
     try clear hcz11_1
     try clear hcz11_2
     try clear hcz11_3
     try clear hcz14_0
     try clear hcz14_1
     try clear hcz14_2
     try clear hcz14_3
     try clear hcz17_0
     try clear hcz17_1
     try clear hcz17_2
     try clear hcz17_3
     try clear hcz20_0
     try clear hcz20_1
     try clear hcz20_2
     try clear hcz20_3
     try clear hcz22_0
     try clear hcz22_1
     try clear hcz22_2
     try clear hcz22_3
     try clear hfz11_0
     try clear hfz11_1
     try clear hfz11_2
     try clear hfz11_3
     try clear hfz14_0
     try clear hfz14_1
     try clear hfz14_2
     try clear hfz14_3
     try clear hfz17_0
     try clear hfz17_1
     try clear hfz17_2
     try clear hfz17_3
     try clear hfz20_0
     try clear hfz20_1
     try clear hfz20_2
     try clear hfz20_3
     try clear hfz22_0
     try clear hfz22_1
     try clear hfz22_2
     try clear hfz22_3
     try clear p2
     obtain ⟨x7_2, rfl, HA, HK2, BK238, HB⟩ := hrel
     cases gk with
     | zero => exact absurd HA.out (by simp [tithelaw22_ResponseSound.l0])
     | succ k2 =>
      have H := HA.out
      clear HA
      simp only [tithelaw22_ResponseSound.l0] at H
      by_cases c28 : x7_2 < (l1.length : Int)
      ·rw [if_pos c28] at H
       have c28b0 : decide (x7_2 < (l1.length : Int)) = true := decide_eq_true c28
       clear c28
       by_cases c29 : 0 ≤ x7_2
       ·rw [if_pos c29] at H
        have c29b0 : decide (0 ≤ x7_2) = true := decide_eq_true c29
        clear c29
        by_cases c30 : (rd l1 x7_2) < 0
        ·rw [if_pos c30] at H
         have c30b0 : decide ((rd l1 x7_2) < 0) = true := decide_eq_true c30
         clear c30
         replace H := Option.bind_eq_some_iff.mp H
         obtain ⟨t243, A310, H⟩ := H
         replace H : (some t243) = some r := H
         have A31 := Aside0.mk A310
         clear A310
         obtain rfl := Option.some.inj H
         have p241 : 0 ≤ (x7_2 : Int) := of_decide_eq_true (by first | (with_reducible assumption) | assumption)
         have q241 : x7_2 < (l1.length : Int) := of_decide_eq_true (by first | (with_reducible assumption) | assumption)
         obtain ⟨ad241, e241, hx241_0⟩ := Kd.at_int HR1.out x7_2 p241 q241
         cases e241
         replace hx241_0 := (HB.out.cell (World.block_lt_of_cell? w _ hx241_0)).trans hx241_0
         replace p241 := eq_true p241
         replace q241 := eq_true q241
         go_wp2_with (first | ((with_reducible refine gate_callee (f := 39) rfl ?_); refine goesL_ (some 83) rfl rfl Try.func39 (by kernel_rfl) rfl #[] rfl (by (try simp only [List.map_toArray, List.map_cons, List.map_nil]); first | done | rfl | (simp only [List.length_drop, List.length_take]; rfl)) ?_; (with_reducible refine (tithelaw22_works.calls k2  t243 _ A31.out).mono ?_); rintro e w32 ⟨rfl, hb⟩; refine ⟨_, rfl, ?_⟩; have n0_ := Aside0.mk (blk_below (g := gb238) (o := .cells #[.int .i64 a2_0, .int .i64 a2_1, .slice A2_2 l2_2.length c2_2, .int .i64 a2_3] 66 (0, 0)) (by (with_reducible repeat (first | refine blk_drewN ?_ _ | refine blk_drew ?_ | refine blk_alloc ?_ _)); exact BK238.out) hb); have n1_ := Aside0.mk (below_step (by repeat (first | (with_reducible first | exact HB.out | apply below_alloc | apply pw_below_drewN | apply below_drew1 | refine below_set ?_ GE238.out) | exact HB.out)) hb); clear BK238; clear HB; have BK238 := n0_; have HB := n1_; clear n0_ n1_; (try clear hb); (try clear hb2); (try clear hk); (try clear hi)))
         go_ret
         exact ⟨by first | rfl | (simp [errW_none, errW_some] <;> rfl) | (simp [*, errW_none, errW_some] <;> rfl), by repeat (first | (with_reducible first | exact HB.out | apply below_alloc | apply pw_below_drewN | apply below_drew1 | refine below_set ?_ GE238.out) | exact HB.out)⟩
        ·rw [if_neg c30] at H
         have c30b0 : decide ((rd l1 x7_2) < 0) = false := decide_eq_false c30
         clear c30
         by_cases c33 : (rd l1 x7_2) > 1000
         ·rw [if_pos c33] at H
          have c33b0 : decide (1000 < (rd l1 x7_2)) = true := decide_eq_true c33
          clear c33
          replace H := Option.bind_eq_some_iff.mp H
          obtain ⟨t244, A340, H⟩ := H
          replace H : (some t244) = some r := H
          have A34 := Aside0.mk A340
          clear A340
          obtain rfl := Option.some.inj H
          have p241 : 0 ≤ (x7_2 : Int) := of_decide_eq_true (by first | (with_reducible assumption) | assumption)
          have q241 : x7_2 < (l1.length : Int) := of_decide_eq_true (by first | (with_reducible assumption) | assumption)
          obtain ⟨ad241, e241, hx241_0⟩ := Kd.at_int HR1.out x7_2 p241 q241
          cases e241
          replace hx241_0 := (HB.out.cell (World.block_lt_of_cell? w _ hx241_0)).trans hx241_0
          replace p241 := eq_true p241
          replace q241 := eq_true q241
          have p242 : 0 ≤ (x7_2 : Int) := of_decide_eq_true (by first | (with_reducible assumption) | assumption)
          have q242 : x7_2 < (l1.length : Int) := of_decide_eq_true (by first | (with_reducible assumption) | assumption)
          obtain ⟨ad242, e242, hx242_0⟩ := Kd.at_int HR1.out x7_2 p242 q242
          obtain rfl : ad241 = ad242 := (by injection e242)
          replace hx242_0 := (HB.out.cell (World.block_lt_of_cell? w _ hx242_0)).trans hx242_0
          replace p242 := eq_true p242
          replace q242 := eq_true q242
          go_wp2_with (first | ((with_reducible refine gate_callee (f := 39) rfl ?_); refine goesL_ (some 83) rfl rfl Try.func39 (by kernel_rfl) rfl #[] rfl (by (try simp only [List.map_toArray, List.map_cons, List.map_nil]); first | done | rfl | (simp only [List.length_drop, List.length_take]; rfl)) ?_; (with_reducible refine (tithelaw22_works.calls k2  t244 _ A34.out).mono ?_); rintro e w35 ⟨rfl, hb⟩; refine ⟨_, rfl, ?_⟩; have n0_ := Aside0.mk (blk_below (g := gb238) (o := .cells #[.int .i64 a2_0, .int .i64 a2_1, .slice A2_2 l2_2.length c2_2, .int .i64 a2_3] 66 (0, 0)) (by (with_reducible repeat (first | refine blk_drewN ?_ _ | refine blk_drew ?_ | refine blk_alloc ?_ _)); exact BK238.out) hb); have n1_ := Aside0.mk (below_step (by repeat (first | (with_reducible first | exact HB.out | apply below_alloc | apply pw_below_drewN | apply below_drew1 | refine below_set ?_ GE238.out) | exact HB.out)) hb); clear BK238; clear HB; have BK238 := n0_; have HB := n1_; clear n0_ n1_; (try clear hb); (try clear hb2); (try clear hk); (try clear hi)))
          go_ret
          exact ⟨by first | rfl | (simp [errW_none, errW_some] <;> rfl) | (simp [*, errW_none, errW_some] <;> rfl), by repeat (first | (with_reducible first | exact HB.out | apply below_alloc | apply pw_below_drewN | apply below_drew1 | refine below_set ?_ GE238.out) | exact HB.out)⟩
         ·rw [if_neg c33] at H
          have c33b0 : decide (1000 < (rd l1 x7_2)) = false := decide_eq_false c33
          clear c33
          have H' := Aside0.mk H
          clear H
          have p241 : 0 ≤ (x7_2 : Int) := of_decide_eq_true (by first | (with_reducible assumption) | assumption)
          have q241 : x7_2 < (l1.length : Int) := of_decide_eq_true (by first | (with_reducible assumption) | assumption)
          obtain ⟨ad241, e241, hx241_0⟩ := Kd.at_int HR1.out x7_2 p241 q241
          cases e241
          replace hx241_0 := (HB.out.cell (World.block_lt_of_cell? w _ hx241_0)).trans hx241_0
          replace p241 := eq_true p241
          replace q241 := eq_true q241
          have p242 : 0 ≤ (x7_2 : Int) := of_decide_eq_true (by first | (with_reducible assumption) | assumption)
          have q242 : x7_2 < (l1.length : Int) := of_decide_eq_true (by first | (with_reducible assumption) | assumption)
          obtain ⟨ad242, e242, hx242_0⟩ := Kd.at_int HR1.out x7_2 p242 q242
          obtain rfl : ad241 = ad242 := (by injection e242)
          replace hx242_0 := (HB.out.cell (World.block_lt_of_cell? w _ hx242_0)).trans hx242_0
          replace p242 := eq_true p242
          replace q242 := eq_true q242
          go_wp2
          go_roundg k2
          case measure => have := HJ3.out; have := HK2.out; omega
          case rel => exact ⟨(wrap64 (x7_2 + 1)), (by first | rfl | (simp; done) | (simp [*]; done)), H', ⟨by have := HJ3.out; have := HK2.out; omega⟩, ⟨by (with_reducible repeat (first | refine blk_drewN ?_ _ | refine blk_drew ?_ | refine blk_alloc ?_ _)); exact BK238.out⟩, ⟨by repeat (first | (with_reducible first | exact HB.out | apply below_alloc | apply pw_below_drewN | apply below_drew1 | refine below_set ?_ GE238.out) | exact HB.out)⟩⟩
       ·rw [if_neg c29] at H
        exact absurd H (by simp)
      ·rw [if_neg c28] at H
       have c28b0 : decide (x7_2 < (l1.length : Int)) = false := decide_eq_false c28
       clear c28
       replace H := Option.bind_eq_some_iff.mp H
       obtain ⟨t245, A360, H⟩ := H
       replace H : ((response_All.f k2 t245 (([(⟨a2_0, a2_1⟩ : S64)] : List (S64)))).bind fun bt251 => (if bt251.2.isNone = true then ((tithelaw22_ticks.f k2 a2_0 a2_1 l2_2 a2_3).bind fun t256 => ((tithelaw22_twin.f l0).bind fun t259 => ((response_Play.f k2 t259 l1 t256).bind fun bt262 => ((titheref20_Order.f k2 l0).bind fun bt266 => (if bt262.2.isNone = true then (if bt266.2 = 0 then (if (bt251.1.length : Int) = (l0.length : Int) then (tithelaw22_ResponseSound.j2 k2 l0 l1 bt251.1 t256 bt262.1 bt266.1 ((bt262.1.length : Int) != (l0.length : Int)) a2_0 a2_1 l2_2 a2_3) else (tithelaw22_ResponseSound.j2 k2 l0 l1 bt251.1 t256 bt262.1 bt266.1 true a2_0 a2_1 l2_2 a2_3)) else (tithelaw22_ResponseSound.j2 k2 l0 l1 bt251.1 t256 bt262.1 bt266.1 true a2_0 a2_1 l2_2 a2_3)) else (tithelaw22_ResponseSound.j2 k2 l0 l1 bt251.1 t256 bt262.1 bt266.1 true a2_0 a2_1 l2_2 a2_3)))))) else ((tithelaw22_works.f k2).bind fun t305 => (some t305)))) = some r := H
       have A36 := Aside0.mk A360
       clear A360
       obtain ⟨y248, hy248⟩ : ∃ y_ : List (S64), y_ = (([(⟨a2_0, a2_1⟩ : S64)] : List (S64))) := ⟨_, rfl⟩
       replace H : ((response_All.f k2 t245 y248).bind fun bt251 => (if bt251.2.isNone = true then ((tithelaw22_ticks.f k2 a2_0 a2_1 l2_2 a2_3).bind fun t256 => ((tithelaw22_twin.f l0).bind fun t259 => ((response_Play.f k2 t259 l1 t256).bind fun bt262 => ((titheref20_Order.f k2 l0).bind fun bt266 => (if bt262.2.isNone = true then (if bt266.2 = 0 then (if (bt251.1.length : Int) = (l0.length : Int) then (tithelaw22_ResponseSound.j2 k2 l0 l1 bt251.1 t256 bt262.1 bt266.1 ((bt262.1.length : Int) != (l0.length : Int)) a2_0 a2_1 l2_2 a2_3) else (tithelaw22_ResponseSound.j2 k2 l0 l1 bt251.1 t256 bt262.1 bt266.1 true a2_0 a2_1 l2_2 a2_3)) else (tithelaw22_ResponseSound.j2 k2 l0 l1 bt251.1 t256 bt262.1 bt266.1 true a2_0 a2_1 l2_2 a2_3)) else (tithelaw22_ResponseSound.j2 k2 l0 l1 bt251.1 t256 bt262.1 bt266.1 true a2_0 a2_1 l2_2 a2_3)))))) else ((tithelaw22_works.f k2).bind fun t305 => (some t305)))) = some r := by first | (rw [hy248]; with_reducible exact H) | (have H2_ := (Option.bind_some _ _).symm.trans H; rw [hy248]; with_reducible exact H2_) | (have H2_ := (Option.bind_some _ _).symm.trans H; with_reducible exact H2_) | with_reducible exact H | (rw [hy248]; exact H) | exact H
       have Ny248 := Aside0.mk hy248
       clear hy248
       replace H := Option.bind_eq_some_iff.mp H
       obtain ⟨⟨t251, t252⟩, A370, H⟩ := H
       replace H : (if t252.isNone = true then ((tithelaw22_ticks.f k2 a2_0 a2_1 l2_2 a2_3).bind fun t256 => ((tithelaw22_twin.f l0).bind fun t259 => ((response_Play.f k2 t259 l1 t256).bind fun bt262 => ((titheref20_Order.f k2 l0).bind fun bt266 => (if bt262.2.isNone = true then (if bt266.2 = 0 then (if (t251.length : Int) = (l0.length : Int) then (tithelaw22_ResponseSound.j2 k2 l0 l1 t251 t256 bt262.1 bt266.1 ((bt262.1.length : Int) != (l0.length : Int)) a2_0 a2_1 l2_2 a2_3) else (tithelaw22_ResponseSound.j2 k2 l0 l1 t251 t256 bt262.1 bt266.1 true a2_0 a2_1 l2_2 a2_3)) else (tithelaw22_ResponseSound.j2 k2 l0 l1 t251 t256 bt262.1 bt266.1 true a2_0 a2_1 l2_2 a2_3)) else (tithelaw22_ResponseSound.j2 k2 l0 l1 t251 t256 bt262.1 bt266.1 true a2_0 a2_1 l2_2 a2_3)))))) else ((tithelaw22_works.f k2).bind fun t305 => (some t305))) = some r := H
       have A37 := Aside0.mk A370
       clear A370
       rcases t252 with _ | q255
       ·as_aux_lemma =>
        have H1 : ((tithelaw22_ticks.f k2 a2_0 a2_1 l2_2 a2_3).bind fun t256 => ((tithelaw22_twin.f l0).bind fun t259 => ((response_Play.f k2 t259 l1 t256).bind fun bt262 => ((titheref20_Order.f k2 l0).bind fun bt266 => (if bt262.2.isNone = true then (if bt266.2 = 0 then (if (t251.length : Int) = (l0.length : Int) then (tithelaw22_ResponseSound.j2 k2 l0 l1 t251 t256 bt262.1 bt266.1 ((bt262.1.length : Int) != (l0.length : Int)) a2_0 a2_1 l2_2 a2_3) else (tithelaw22_ResponseSound.j2 k2 l0 l1 t251 t256 bt262.1 bt266.1 true a2_0 a2_1 l2_2 a2_3)) else (tithelaw22_ResponseSound.j2 k2 l0 l1 t251 t256 bt262.1 bt266.1 true a2_0 a2_1 l2_2 a2_3)) else (tithelaw22_ResponseSound.j2 k2 l0 l1 t251 t256 bt262.1 bt266.1 true a2_0 a2_1 l2_2 a2_3)))))) = some r := by rw [if_pos (show (none : Option Int).isNone = true by rfl)] at H; exact H
        clear H
        have H := H1
        clear H1
        try simp only [errW_none, errW_some]
        replace H := Option.bind_eq_some_iff.mp H
        obtain ⟨t256, A380, H⟩ := H
        replace H : ((tithelaw22_twin.f l0).bind fun t259 => ((response_Play.f k2 t259 l1 t256).bind fun bt262 => ((titheref20_Order.f k2 l0).bind fun bt266 => (if bt262.2.isNone = true then (if bt266.2 = 0 then (if (t251.length : Int) = (l0.length : Int) then (tithelaw22_ResponseSound.j2 k2 l0 l1 t251 t256 bt262.1 bt266.1 ((bt262.1.length : Int) != (l0.length : Int)) a2_0 a2_1 l2_2 a2_3) else (tithelaw22_ResponseSound.j2 k2 l0 l1 t251 t256 bt262.1 bt266.1 true a2_0 a2_1 l2_2 a2_3)) else (tithelaw22_ResponseSound.j2 k2 l0 l1 t251 t256 bt262.1 bt266.1 true a2_0 a2_1 l2_2 a2_3)) else (tithelaw22_ResponseSound.j2 k2 l0 l1 t251 t256 bt262.1 bt266.1 true a2_0 a2_1 l2_2 a2_3))))) = some r := H
        have A38 := Aside0.mk A380
        clear A380
        replace H := Option.bind_eq_some_iff.mp H
        obtain ⟨t259, A390, H⟩ := H
        replace H : ((response_Play.f k2 t259 l1 t256).bind fun bt262 => ((titheref20_Order.f k2 l0).bind fun bt266 => (if bt262.2.isNone = true then (if bt266.2 = 0 then (if (t251.length : Int) = (l0.length : Int) then (tithelaw22_ResponseSound.j2 k2 l0 l1 t251 t256 bt262.1 bt266.1 ((bt262.1.length : Int) != (l0.length : Int)) a2_0 a2_1 l2_2 a2_3) else (tithelaw22_ResponseSound.j2 k2 l0 l1 t251 t256 bt262.1 bt266.1 true a2_0 a2_1 l2_2 a2_3)) else (tithelaw22_ResponseSound.j2 k2 l0 l1 t251 t256 bt262.1 bt266.1 true a2_0 a2_1 l2_2 a2_3)) else (tithelaw22_ResponseSound.j2 k2 l0 l1 t251 t256 bt262.1 bt266.1 true a2_0 a2_1 l2_2 a2_3)))) = some r := H
        have A39 := Aside0.mk A390
        clear A390
        replace H := Option.bind_eq_some_iff.mp H
        obtain ⟨⟨t262, t263⟩, A400, H⟩ := H
        replace H : ((titheref20_Order.f k2 l0).bind fun bt266 => (if t263.isNone = true then (if bt266.2 = 0 then (if (t251.length : Int) = (l0.length : Int) then (tithelaw22_ResponseSound.j2 k2 l0 l1 t251 t256 t262 bt266.1 ((t262.length : Int) != (l0.length : Int)) a2_0 a2_1 l2_2 a2_3) else (tithelaw22_ResponseSound.j2 k2 l0 l1 t251 t256 t262 bt266.1 true a2_0 a2_1 l2_2 a2_3)) else (tithelaw22_ResponseSound.j2 k2 l0 l1 t251 t256 t262 bt266.1 true a2_0 a2_1 l2_2 a2_3)) else (tithelaw22_ResponseSound.j2 k2 l0 l1 t251 t256 t262 bt266.1 true a2_0 a2_1 l2_2 a2_3))) = some r := H
        have A40 := Aside0.mk A400
        clear A400
        replace H := Option.bind_eq_some_iff.mp H
        obtain ⟨⟨t266, t267⟩, A410, H⟩ := H
        replace H : (if t263.isNone = true then (if t267 = 0 then (if (t251.length : Int) = (l0.length : Int) then (tithelaw22_ResponseSound.j2 k2 l0 l1 t251 t256 t262 t266 ((t262.length : Int) != (l0.length : Int)) a2_0 a2_1 l2_2 a2_3) else (tithelaw22_ResponseSound.j2 k2 l0 l1 t251 t256 t262 t266 true a2_0 a2_1 l2_2 a2_3)) else (tithelaw22_ResponseSound.j2 k2 l0 l1 t251 t256 t262 t266 true a2_0 a2_1 l2_2 a2_3)) else (tithelaw22_ResponseSound.j2 k2 l0 l1 t251 t256 t262 t266 true a2_0 a2_1 l2_2 a2_3)) = some r := H
        have A41 := Aside0.mk A410
        clear A410
        have HC42 := Aside0.mk H
        clear H
        try go_wp2
        have n0_ := Aside0.mk (blk_drew BK238.out)
        have n1_ := Aside0.mk (below_drew1 HB.out)
        clear BK238
        clear HB
        have BK238 := n0_
        have HB := n1_
        clear n0_ n1_
        refine start_ (n := 11) (S := fun w' => True) (ds := []) #[false, false, false, false, false, false, false, false, false, false, false] (by kernel_rfl) rfl rfl trivial (fun hHeld => ?_); refine with_tabW tithelaw22_ResponseSound.tab8 tithelaw22_ResponseSound.bits8 (fun HT_ HW_ => ?_)
        generalize wr.drew = w43 at BK238 HB hHeld ⊢
        refine pure_ (i := 0) (N := some 85) (v := ?_) (a' := ?_) #[true, false, false, false, false, false, false, false, false, false, false] rfl rfl (any_of HT_.out (by kernel_rfl)) (fun _ _ _ h => h) (Or.inl ⟨by rfl, ?_⟩) ?_ ?_
        rotate_left
        ·intro w'
         go_simp
         with_reducible rfl
        rotate_left
        ·simp only [Act.put, List.setIfInBounds_toArray, List.set_cons_zero, List.set_cons_succ, i64_w, i32_w]
         rfl
        refine pure_ (i := 2) (N := some 87) (v := ?_) (a' := ?_) #[true, false, true, false, false, false, false, false, false, false, false] rfl rfl (any_of HT_.out (by kernel_rfl)) (fun _ _ _ h => h) (Or.inl ⟨by rfl, ?_⟩) ?_ ?_
        rotate_left
        ·intro w'
         go_simp
         with_reducible rfl
        rotate_left
        ·simp only [Act.put, List.setIfInBounds_toArray, List.set_cons_zero, List.set_cons_succ, i64_w, i32_w]
         rfl
        refine inv_at [1, 3, 4, 5, 6, 7, 8, 9, 10] (fun a0_ b a w' => ∃ (v246 : Value) (v249 : Value) (v253 : Value) (m5_ : Value) (m6_ : Value) (m7_ : Value) (m9_ : Value), a = putSel a0_ b [(1, 86, v246), (3, 88, .agg #[.int .i64 a2_0, .int .i64 a2_1]), (4, 89, v249), (5, 90, m5_), (6, 84, m6_), (7, 91, m7_), (8, 92, errW none), (9, 8, m9_), (10, 9, errW none)] ∧ (w'.heap[gb238]? = some (.cells #[.int .i64 a2_0, .int .i64 a2_1, .slice A2_2 l2_2.length c2_2, .int .i64 a2_3] 66 (0, 0))) ∧ (Below w.heap.size w w') ∧ (b 1 = true → Kd.R k43 43 w' w.heap.size (fun _ => True) v246 t245) ∧ (b 4 = true → Kd.R k64 64 w' w.heap.size (fun _ => True) v249 y248) ∧ (b 5 = true → Kd.R (Kd.int .i64) 3 w' w.heap.size (fun _ => True) v253 t251) ∧ (b 5 = true → (m5_ : Value) = .tuple #[v253, errW none]) ∧ (b 6 = true → (m6_ : Value) = .tuple #[v253, errW none]) ∧ (b 7 = true → (m7_ : Value) = v253) ∧ (b 9 = true → (m9_ : Value) = v253)) HT_.out HW_.out (by kernel_rfl) (by kernel_rfl) ?_ ?_ ?_
        ·exact ⟨.bool false, .bool false, .bool false, .bool false, .bool false, .bool false, .bool false, by simp only [putSel, Bool.false_eq_true, if_false], BK238.out, HB.out, fun h_ => absurd h_ (by decide), fun h_ => absurd h_ (by decide), fun h_ => absurd h_ (by decide), fun h_ => absurd h_ (by decide), fun h_ => absurd h_ (by decide), fun h_ => absurd h_ (by decide), fun h_ => absurd h_ (by decide)⟩
        ·skip
         clear BK238 HB
         refine steps_cons ?_ ?_
         ·rintro b a w' ⟨v246, v249, v253, m5_, m6_, m7_, m9_, ha, Q_BK238, Q_HB, Q_HO247, Q_HO250, Q_HO254, Q_X5_, Q_X6_, Q_X7_, Q_X9_⟩ hb_ hon hoff
          refine ⟨_, rfl, fun K hK => ?_⟩
          have e85 : a.tmps[85]? = some (.slice A0 l0.length c0) := by rw [ha]; exact (putSel_off rfl).trans rfl
          replace ha := Aside0.mk ha
          have BK238 := Aside0.mk Q_BK238
          have HB := Aside0.mk Q_HB
          refine goes_ Try.func31 (by kernel_rfl) rfl #[.slice A0 l0.length c0] (by rfl) rfl rfl (by first | (simp only [List.map_toArray, List.map_cons, List.map_nil, Act.eval, Array.getD_eq_getD_getElem?, Option.getD_some, e85]; done) | (simp only [List.map_toArray, List.map_cons, List.map_nil, Act.eval, Array.getD_eq_getD_getElem?, Option.getD_some, e85]; rfl)) ?_
          with_reducible refine (tithelaw22_twin.calls _ _ l0 t245 _ ?side1 ?side2 A36.out).mono ?_
          (case side1 => repeat (first | exact (Kd.C_below HR0.out HB.out) | (with_reducible refine Kd.C_alloc ?_ _) | (with_reducible refine Kd.C_drewN ?_ _) | (with_reducible refine Kd.C_drew ?_)))
          (case side2 => exact HC0.out)
          rintro e w44 ⟨v246, rfl, ho0, hb⟩
          refine ⟨_, rfl, ?_⟩
          have n0_ := Aside0.mk (Kd.R_lower ho0 (below_size (by repeat (first | (with_reducible first | exact HB.out | apply below_alloc | apply pw_below_drewN | apply below_drew1 | refine below_set ?_ GE238.out) | exact HB.out))))
          have n1_ := Aside0.mk (blk_below (g := gb238) (o := .cells #[.int .i64 a2_0, .int .i64 a2_1, .slice A2_2 l2_2.length c2_2, .int .i64 a2_3] 66 (0, 0)) (by (with_reducible repeat (first | refine blk_drewN ?_ _ | refine blk_drew ?_ | refine blk_alloc ?_ _)); exact BK238.out) hb)
          have n2_ := Aside0.mk (below_step (by repeat (first | (with_reducible first | exact HB.out | apply below_alloc | apply pw_below_drewN | apply below_drew1 | refine below_set ?_ GE238.out) | exact HB.out)) hb)
          have z_HO250 := fun (h0_ : b 4 = true) => (show Kd.R k64 64 w44 w.heap.size (fun _ => True) v249 y248 from by first | exact (Kd.R_below (by (with_reducible repeat (first | apply Kd.R_alloc | apply Kd.R_drewN | apply Kd.R_drew)); exact (Q_HO250 h0_)) hb) | exact Kd.R_mono (Kd.R_below (by (with_reducible repeat (first | apply Kd.R_alloc | apply Kd.R_drewN | apply Kd.R_drew)); exact (Q_HO250 h0_)) hb) (fun _ h_ => by first | trivial | exact h_ | exact h_.1))
          clear BK238
          clear HB
          have HO247 := n0_
          have BK238 := n1_
          have HB := n2_
          clear n0_ n1_ n2_
          (try clear hb)
          (try clear hb2)
          (try clear hk)
          (try clear hi)
          (try clear ho0)
          refine hK.out _ _ ⟨v246, v249, v253, m5_, m6_, m7_, m9_, (by rw [ha.out]; exact putSel_upk 0 hb_ rfl rfl rfl), (by (with_reducible repeat (first | refine blk_drewN ?_ _ | refine blk_drew ?_ | refine blk_alloc ?_ _)); exact BK238.out), (by repeat (first | (with_reducible first | exact HB.out | apply below_alloc | apply pw_below_drewN | apply below_drew1 | refine below_set ?_ GE238.out) | exact HB.out)), fun _ => (by (with_reducible repeat (first | apply Kd.R_alloc | apply Kd.R_drewN | apply Kd.R_drew)); exact HO247.out), z_HO250, fun h0_ => absurd ((hoff 5 (by kernel_rfl)).symm.trans h0_) (by decide), fun h0_ => absurd ((hoff 5 (by kernel_rfl)).symm.trans h0_) (by decide), fun h0_ => absurd ((hoff 6 (by kernel_rfl)).symm.trans h0_) (by decide), fun h0_ => absurd ((hoff 7 (by kernel_rfl)).symm.trans h0_) (by decide), fun h0_ => absurd ((hoff 9 (by kernel_rfl)).symm.trans h0_) (by decide)⟩
         refine steps_cons ?_ ?_
         ·rintro b a w' ⟨v246, v249, v253, m5_, m6_, m7_, m9_, ha, Q_BK238, Q_HB, Q_HO247, Q_HO250, Q_HO254, Q_X5_, Q_X6_, Q_X7_, Q_X9_⟩ hb_ hon hoff
          refine ⟨_, rfl, fun K hK => ?_⟩
          have e87 : a.tmps[87]? = some (.pointer (some ⟨gb238, 0, none⟩)) := by rw [ha]; exact (putSel_off rfl).trans rfl
          replace ha := Aside0.mk ha
          have BK238 := Aside0.mk Q_BK238
          have HB := Aside0.mk Q_HB
          have hc0_ : w'.cell? ⟨gb238, 0, none⟩ = some (.int .i64 a2_0) := (blk_cell BK238.out 0).trans (by rfl)
          have hc1_ : w'.cell? ⟨gb238, 1, none⟩ = some (.int .i64 a2_1) := (blk_cell BK238.out 1).trans (by rfl)
          have hc2_ : w'.cell? ⟨gb238, 2, none⟩ = some (.slice A2_2 l2_2.length c2_2) := (blk_cell BK238.out 2).trans (by rfl)
          have hc3_ : w'.cell? ⟨gb238, 3, none⟩ = some (.int .i64 a2_3) := (blk_cell BK238.out 3).trans (by rfl)
          refine value_ (w1 := w') (v := .agg #[.int .i64 a2_0, .int .i64 a2_1]) (by rfl) rfl ?_ ?_
          ·go_simp
           (try simp only [i64_w])
           try rfl
          refine hK.out _ _ ⟨v246, v249, v253, m5_, m6_, m7_, m9_, (by rw [ha.out]; exact putSel_upk 1 hb_ rfl rfl rfl), Q_BK238, Q_HB, Q_HO247, fun h0_ => absurd ((hoff 4 (by kernel_rfl)).symm.trans h0_) (by decide), fun h0_ => absurd ((hoff 5 (by kernel_rfl)).symm.trans h0_) (by decide), fun h0_ => absurd ((hoff 5 (by kernel_rfl)).symm.trans h0_) (by decide), fun h0_ => absurd ((hoff 6 (by kernel_rfl)).symm.trans h0_) (by decide), fun h0_ => absurd ((hoff 7 (by kernel_rfl)).symm.trans h0_) (by decide), fun h0_ => absurd ((hoff 9 (by kernel_rfl)).symm.trans h0_) (by decide)⟩
         refine steps_cons ?_ ?_
         ·rintro b a w' ⟨v246, v249, v253, m5_, m6_, m7_, m9_, ha, Q_BK238, Q_HB, Q_HO247, Q_HO250, Q_HO254, Q_X5_, Q_X6_, Q_X7_, Q_X9_⟩ hb_ hon hoff
          refine ⟨_, rfl, fun K hK => ?_⟩
          have e88 : a.tmps[88]? = some (.agg #[.int .i64 a2_0, .int .i64 a2_1]) := by rw [ha]; exact putSel_on (e := (3, 88, .agg #[.int .i64 a2_0, .int .i64 a2_1])) 1 rfl rfl (hon 3 (by kernel_rfl)) rfl
          replace ha := Aside0.mk ha
          have BK238 := Aside0.mk Q_BK238
          have HB := Aside0.mk Q_HB
          refine Kd.R_lit_step k64 _ 64 ?hg (N := 89) ?hd (xs := ([(⟨a2_0, a2_1⟩ : S64)] : List (S64))) (inner := [.int .i64 a2_0, .int .i64 a2_1]) (ok := fun _ => True) (okp := fun _ => True) ?hr ?hp (fun _ hk => hk) trivial (Below.refl _ _) (Nat.le_refl _) (by simp) ?_; (case hd => rfl); (case hg => rfl); (case hr => first | (go_simp; done) | (go_simp; rfl)); (case hp => exact (Reps.c2 (show Kd.M k64 _ _ _ (⟨a2_0, a2_1⟩ : S64) [.int .i64 a2_0, .int .i64 a2_1] from (k64_mkM _ _ _ (⟨a2_0, a2_1⟩ : S64) )) (Reps.none _ _)))
          intro v249 w44 ho45 hb hg_ hnew_
          clear hg_ hnew_
          (first | rw [← Ny248.out] at ho45 | (simp only [Int.reduceToNat] at ho45; rw [← Ny248.out] at ho45))
          have n0_ := Aside0.mk (Kd.R_lower ho45 (below_size (by repeat (first | (with_reducible first | exact HB.out | apply below_alloc | apply pw_below_drewN | apply below_drew1 | refine below_set ?_ GE238.out) | exact HB.out))))
          have n1_ := Aside0.mk (blk_below (g := gb238) (o := .cells #[.int .i64 a2_0, .int .i64 a2_1, .slice A2_2 l2_2.length c2_2, .int .i64 a2_3] 66 (0, 0)) (by (with_reducible repeat (first | refine blk_drewN ?_ _ | refine blk_drew ?_ | refine blk_alloc ?_ _)); exact BK238.out) hb)
          have n2_ := Aside0.mk (below_step (by repeat (first | (with_reducible first | exact HB.out | apply below_alloc | apply pw_below_drewN | apply below_drew1 | refine below_set ?_ GE238.out) | exact HB.out)) hb)
          have z_HO247 := fun (h0_ : b 1 = true) => (show Kd.R k43 43 w44 w.heap.size (fun _ => True) v246 t245 from by first | exact (Kd.R_below (by (with_reducible repeat (first | apply Kd.R_alloc | apply Kd.R_drewN | apply Kd.R_drew)); exact (Q_HO247 h0_)) hb) | exact Kd.R_mono (Kd.R_below (by (with_reducible repeat (first | apply Kd.R_alloc | apply Kd.R_drewN | apply Kd.R_drew)); exact (Q_HO247 h0_)) hb) (fun _ h_ => by first | trivial | exact h_ | exact h_.1))
          clear BK238
          clear HB
          have HO250 := n0_
          have BK238 := n1_
          have HB := n2_
          clear n0_ n1_ n2_
          clear hb ho45
          refine hK.out _ _ ⟨v246, v249, v253, m5_, m6_, m7_, m9_, (by rw [ha.out]; exact putSel_upk 2 hb_ rfl rfl rfl), (by (with_reducible repeat (first | refine blk_drewN ?_ _ | refine blk_drew ?_ | refine blk_alloc ?_ _)); exact BK238.out), (by repeat (first | (with_reducible first | exact HB.out | apply below_alloc | apply pw_below_drewN | apply below_drew1 | refine below_set ?_ GE238.out) | exact HB.out)), z_HO247, fun _ => (by (with_reducible repeat (first | apply Kd.R_alloc | apply Kd.R_drewN | apply Kd.R_drew)); exact HO250.out), fun h0_ => absurd ((hoff 5 (by kernel_rfl)).symm.trans h0_) (by decide), fun h0_ => absurd ((hoff 5 (by kernel_rfl)).symm.trans h0_) (by decide), fun h0_ => absurd ((hoff 6 (by kernel_rfl)).symm.trans h0_) (by decide), fun h0_ => absurd ((hoff 7 (by kernel_rfl)).symm.trans h0_) (by decide), fun h0_ => absurd ((hoff 9 (by kernel_rfl)).symm.trans h0_) (by decide)⟩
         refine steps_cons ?_ ?_
         ·rintro b a w' ⟨v246, v249, v253, m5_, m6_, m7_, m9_, ha, Q_BK238, Q_HB, Q_HO247, Q_HO250, Q_HO254, Q_X5_, Q_X6_, Q_X7_, Q_X9_⟩ hb_ hon hoff
          refine ⟨_, rfl, fun K hK => ?_⟩
          have e86 : a.tmps[86]? = some (v246) := by rw [ha]; exact putSel_on (e := (1, 86, v246)) 0 rfl rfl (hon 1 (by kernel_rfl)) rfl
          have e89 : a.tmps[89]? = some (v249) := by rw [ha]; exact putSel_on (e := (4, 89, v249)) 2 rfl rfl (hon 4 (by kernel_rfl)) rfl
          replace ha := Aside0.mk ha
          have BK238 := Aside0.mk Q_BK238
          have HB := Aside0.mk Q_HB
          have HO247 := Aside0.mk (Q_HO247 (hon 1 (by kernel_rfl)))
          have HO250 := Aside0.mk (Q_HO250 (hon 4 (by kernel_rfl)))
          obtain ⟨Ao48, co48, eo48⟩ := Kd.R_slice HO247.out
          (first | subst eo48 | (injection eo48 with f1_ f2_ f3_; have f4_ := f1_.symm; have f5_ := f3_.symm; clear f1_ f2_ f3_; subst f4_; subst f5_))
          obtain ⟨Ao49, co49, eo49⟩ := Kd.R_slice HO250.out
          (first | subst eo49 | (injection eo49 with f1_ f2_ f3_; have f4_ := f1_.symm; have f5_ := f3_.symm; clear f1_ f2_ f3_; subst f4_; subst f5_))
          refine goes_ Try.func34 (by kernel_rfl) rfl #[.slice Ao48 t245.length co48, .slice Ao49 y248.length co49] (by rfl) rfl rfl (by first | (simp only [List.map_toArray, List.map_cons, List.map_nil, Act.eval, Array.getD_eq_getD_getElem?, Option.getD_some, e86, e89]; done) | (simp only [List.map_toArray, List.map_cons, List.map_nil, Act.eval, Array.getD_eq_getD_getElem?, Option.getD_some, e86, e89]; rfl)) ?_
          with_reducible refine (response_All.calls k2 _ _ t245 _ _ y248 t251 none _ ?side1 ?side2 ?side3 ?side4 A37.out).mono ?_
          (case side1 => repeat (first | exact (Kd.R_reads' HO247.out).2.2 | (with_reducible refine Kd.C_alloc ?_ _) | (with_reducible refine Kd.C_drewN ?_ _) | (with_reducible refine Kd.C_drew ?_)))
          (case side2 => exact (Kd.R_reads' HO247.out).2.1)
          (case side3 => repeat (first | exact (Kd.R_reads' HO250.out).2.2 | (with_reducible refine Kd.C_alloc ?_ _) | (with_reducible refine Kd.C_drewN ?_ _) | (with_reducible refine Kd.C_drew ?_)))
          (case side4 => exact (Kd.R_reads' HO250.out).2.1)
          rintro e w50 ⟨v253, rfl, ho0, hb⟩
          refine ⟨_, rfl, ?_⟩
          have n0_ := Aside0.mk (Kd.R_below (by (with_reducible repeat (first | apply Kd.R_alloc | apply Kd.R_drewN | apply Kd.R_drew)); exact HO247.out) hb)
          have n1_ := Aside0.mk (Kd.R_below (by (with_reducible repeat (first | apply Kd.R_alloc | apply Kd.R_drewN | apply Kd.R_drew)); exact HO250.out) hb)
          have n2_ := Aside0.mk (Kd.R_lower ho0 (below_size (by repeat (first | (with_reducible first | exact HB.out | apply below_alloc | apply pw_below_drewN | apply below_drew1 | refine below_set ?_ GE238.out) | exact HB.out))))
          have n3_ := Aside0.mk (blk_below (g := gb238) (o := .cells #[.int .i64 a2_0, .int .i64 a2_1, .slice A2_2 l2_2.length c2_2, .int .i64 a2_3] 66 (0, 0)) (by (with_reducible repeat (first | refine blk_drewN ?_ _ | refine blk_drew ?_ | refine blk_alloc ?_ _)); exact BK238.out) hb)
          have n4_ := Aside0.mk (below_step (by repeat (first | (with_reducible first | exact HB.out | apply below_alloc | apply pw_below_drewN | apply below_drew1 | refine below_set ?_ GE238.out) | exact HB.out)) hb)
          clear HO247
          clear HO250
          clear BK238
          clear HB
          have HO247 := n0_
          have HO250 := n1_
          have HO254 := n2_
          have BK238 := n3_
          have HB := n4_
          clear n0_ n1_ n2_ n3_ n4_
          (try clear hb)
          (try clear hb2)
          (try clear hk)
          (try clear hi)
          (try clear ho0)
          (try simp only [errW_none, errW_some])
          refine hK.out _ _ ⟨.slice Ao48 t245.length co48, .slice Ao49 y248.length co49, v253, (.tuple #[v253, errW none]), m6_, m7_, m9_, (by rw [ha.out]; exact putSel_upk 3 hb_ rfl rfl rfl), (by (with_reducible repeat (first | refine blk_drewN ?_ _ | refine blk_drew ?_ | refine blk_alloc ?_ _)); exact BK238.out), (by repeat (first | (with_reducible first | exact HB.out | apply below_alloc | apply pw_below_drewN | apply below_drew1 | refine below_set ?_ GE238.out) | exact HB.out)), fun _ => (by (with_reducible repeat (first | apply Kd.R_alloc | apply Kd.R_drewN | apply Kd.R_drew)); exact HO247.out), fun _ => (by (with_reducible repeat (first | apply Kd.R_alloc | apply Kd.R_drewN | apply Kd.R_drew)); exact HO250.out), fun _ => (by (with_reducible repeat (first | apply Kd.R_alloc | apply Kd.R_drewN | apply Kd.R_drew)); exact HO254.out), fun _ => rfl, fun h0_ => absurd ((hoff 6 (by kernel_rfl)).symm.trans h0_) (by decide), fun h0_ => absurd ((hoff 7 (by kernel_rfl)).symm.trans h0_) (by decide), fun h0_ => absurd ((hoff 9 (by kernel_rfl)).symm.trans h0_) (by decide)⟩
         refine steps_cons ?_ ?_
         ·rintro b a w' ⟨v246, v249, v253, m5_, m6_, m7_, m9_, ha, Q_BK238, Q_HB, Q_HO247, Q_HO250, Q_HO254, Q_X5_, Q_X6_, Q_X7_, Q_X9_⟩ hb_ hon hoff
          refine ⟨_, rfl, fun K hK => ?_⟩
          have e90 : a.tmps[90]? = some (m5_) := by rw [ha]; exact putSel_on (e := (5, 90, m5_)) 3 rfl rfl (hon 5 (by kernel_rfl)) rfl
          rw [Q_X5_ (hon 5 (by kernel_rfl))] at e90
          replace ha := Aside0.mk ha
          have BK238 := Aside0.mk Q_BK238
          have HB := Aside0.mk Q_HB
          have HO247 := Aside0.mk (Q_HO247 (hon 1 (by kernel_rfl)))
          have HO250 := Aside0.mk (Q_HO250 (hon 4 (by kernel_rfl)))
          have HO254 := Aside0.mk (Q_HO254 (hon 5 (by kernel_rfl)))
          refine value_ (w1 := w') (v := .tuple #[v253, errW none]) (by rfl) rfl ?_ ?_
          ·go_simp
           (try simp only [i64_w])
           try rfl
          refine hK.out _ _ ⟨v246, v249, v253, m5_, (.tuple #[v253, errW none]), m7_, m9_, (by rw [ha.out]; exact putSel_upk 4 hb_ rfl rfl rfl), Q_BK238, Q_HB, Q_HO247, Q_HO250, Q_HO254, Q_X5_, fun _ => rfl, fun h0_ => absurd ((hoff 7 (by kernel_rfl)).symm.trans h0_) (by decide), fun h0_ => absurd ((hoff 9 (by kernel_rfl)).symm.trans h0_) (by decide)⟩
         refine steps_cons ?_ ?_
         ·rintro b a w' ⟨v246, v249, v253, m5_, m6_, m7_, m9_, ha, Q_BK238, Q_HB, Q_HO247, Q_HO250, Q_HO254, Q_X5_, Q_X6_, Q_X7_, Q_X9_⟩ hb_ hon hoff
          refine ⟨_, rfl, fun K hK => ?_⟩
          have e84 : a.tmps[84]? = some (m6_) := by rw [ha]; exact putSel_on (e := (6, 84, m6_)) 4 rfl rfl (hon 6 (by kernel_rfl)) rfl
          rw [Q_X6_ (hon 6 (by kernel_rfl))] at e84
          replace ha := Aside0.mk ha
          have BK238 := Aside0.mk Q_BK238
          have HB := Aside0.mk Q_HB
          have HO247 := Aside0.mk (Q_HO247 (hon 1 (by kernel_rfl)))
          have HO250 := Aside0.mk (Q_HO250 (hon 4 (by kernel_rfl)))
          have HO254 := Aside0.mk (Q_HO254 (hon 5 (by kernel_rfl)))
          obtain ⟨Ao7_0, co7_0, eo_⟩ := Kd.R_slice HO254.out
          subst eo_
          refine value_ (w1 := w') (v := .slice Ao7_0 t251.length co7_0) (by rfl) rfl ?_ ?_
          ·go_simp
           (try simp only [i64_w])
           try rfl
          refine hK.out _ _ ⟨v246, v249, .slice Ao7_0 t251.length co7_0, m5_, m6_, (.slice Ao7_0 t251.length co7_0), m9_, (by rw [ha.out]; exact putSel_upk 5 hb_ rfl rfl rfl), Q_BK238, Q_HB, Q_HO247, Q_HO250, Q_HO254, Q_X5_, Q_X6_, fun _ => rfl, fun h0_ => absurd ((hoff 9 (by kernel_rfl)).symm.trans h0_) (by decide)⟩
         refine steps_cons ?_ ?_
         ·rintro b a w' ⟨v246, v249, v253, m5_, m6_, m7_, m9_, ha, Q_BK238, Q_HB, Q_HO247, Q_HO250, Q_HO254, Q_X5_, Q_X6_, Q_X7_, Q_X9_⟩ hb_ hon hoff
          refine ⟨_, rfl, fun K hK => ?_⟩
          have e84 : a.tmps[84]? = some (m6_) := by rw [ha]; exact putSel_on (e := (6, 84, m6_)) 4 rfl rfl (hon 6 (by kernel_rfl)) rfl
          rw [Q_X6_ (hon 6 (by kernel_rfl))] at e84
          replace ha := Aside0.mk ha
          have BK238 := Aside0.mk Q_BK238
          have HB := Aside0.mk Q_HB
          have HO247 := Aside0.mk (Q_HO247 (hon 1 (by kernel_rfl)))
          have HO250 := Aside0.mk (Q_HO250 (hon 4 (by kernel_rfl)))
          have HO254 := Aside0.mk (Q_HO254 (hon 5 (by kernel_rfl)))
          obtain ⟨Ao8_0, co8_0, eo_⟩ := Kd.R_slice HO254.out
          subst eo_
          refine value_ (w1 := w') (v := errW none) (by rfl) rfl ?_ ?_
          ·go_simp
           (try simp only [i64_w])
           try rfl
          refine hK.out _ _ ⟨v246, v249, .slice Ao8_0 t251.length co8_0, m5_, m6_, m7_, m9_, (by rw [ha.out]; exact putSel_upk 6 hb_ rfl rfl rfl), Q_BK238, Q_HB, Q_HO247, Q_HO250, Q_HO254, Q_X5_, Q_X6_, Q_X7_, Q_X9_⟩
         refine steps_cons ?_ ?_
         ·rintro b a w' ⟨v246, v249, v253, m5_, m6_, m7_, m9_, ha, Q_BK238, Q_HB, Q_HO247, Q_HO250, Q_HO254, Q_X5_, Q_X6_, Q_X7_, Q_X9_⟩ hb_ hon hoff
          refine ⟨_, rfl, fun K hK => ?_⟩
          have e91 : a.tmps[91]? = some (m7_) := by rw [ha]; exact putSel_on (e := (7, 91, m7_)) 5 rfl rfl (hon 7 (by kernel_rfl)) rfl
          rw [Q_X7_ (hon 7 (by kernel_rfl))] at e91
          replace ha := Aside0.mk ha
          have BK238 := Aside0.mk Q_BK238
          have HB := Aside0.mk Q_HB
          have HO247 := Aside0.mk (Q_HO247 (hon 1 (by kernel_rfl)))
          have HO250 := Aside0.mk (Q_HO250 (hon 4 (by kernel_rfl)))
          have HO254 := Aside0.mk (Q_HO254 (hon 5 (by kernel_rfl)))
          refine value_ (w1 := w') (v := v253) (by rfl) rfl ?_ ?_
          ·go_simp
           (try simp only [i64_w])
           try rfl
          refine hK.out _ _ ⟨v246, v249, v253, m5_, m6_, m7_, (v253), (by rw [ha.out]; exact putSel_upk 7 hb_ rfl rfl rfl), Q_BK238, Q_HB, Q_HO247, Q_HO250, Q_HO254, Q_X5_, Q_X6_, Q_X7_, fun _ => rfl⟩
         refine steps_cons ?_ ?_
         ·rintro b a w' ⟨v246, v249, v253, m5_, m6_, m7_, m9_, ha, Q_BK238, Q_HB, Q_HO247, Q_HO250, Q_HO254, Q_X5_, Q_X6_, Q_X7_, Q_X9_⟩ hb_ hon hoff
          refine ⟨_, rfl, fun K hK => ?_⟩
          have e92 : a.tmps[92]? = some (errW none) := by rw [ha]; exact putSel_on (e := (8, 92, errW none)) 6 rfl rfl (hon 8 (by kernel_rfl)) rfl
          replace ha := Aside0.mk ha
          have BK238 := Aside0.mk Q_BK238
          have HB := Aside0.mk Q_HB
          have HO247 := Aside0.mk (Q_HO247 (hon 1 (by kernel_rfl)))
          have HO250 := Aside0.mk (Q_HO250 (hon 4 (by kernel_rfl)))
          have HO254 := Aside0.mk (Q_HO254 (hon 5 (by kernel_rfl)))
          refine value_ (w1 := w') (v := errW none) (by rfl) rfl ?_ ?_
          ·go_simp
           (try simp only [i64_w])
           try rfl
          refine hK.out _ _ ⟨v246, v249, v253, m5_, m6_, m7_, m9_, (by rw [ha.out]; exact putSel_upk 8 hb_ rfl rfl rfl), Q_BK238, Q_HB, Q_HO247, Q_HO250, Q_HO254, Q_X5_, Q_X6_, Q_X7_, Q_X9_⟩
         exact steps_nil
        rintro b a w50 hall ⟨v246, v249, v253, m5_, m6_, m7_, m9_, ha, Q_BK238, Q_HB, Q_HO247, Q_HO250, Q_HO254, Q_X5_, Q_X6_, Q_X7_, Q_X9_⟩
        clear BK238 HB
        have hb1_ := hall 1 (by kernel_rfl)
        have hb3_ := hall 3 (by kernel_rfl)
        have hb4_ := hall 4 (by kernel_rfl)
        have hb5_ := hall 5 (by kernel_rfl)
        have hb6_ := hall 6 (by kernel_rfl)
        have hb7_ := hall 7 (by kernel_rfl)
        have hb8_ := hall 8 (by kernel_rfl)
        have hb9_ := hall 9 (by kernel_rfl)
        have hb10_ := hall 10 (by kernel_rfl)
        subst ha
        obtain rfl := Q_X5_ hb5_
        obtain rfl := Q_X6_ hb6_
        have hq7_ := Q_X7_ hb7_; subst m7_
        have hq9_ := Q_X9_ hb9_; subst m9_
        simp only [putSel, hb1_, hb3_, hb4_, hb5_, hb6_, hb7_, hb8_, hb9_, hb10_, if_true, Act.put, List.setIfInBounds_toArray, List.set_cons_zero, List.set_cons_succ]
        have BK238 := Aside0.mk Q_BK238
        clear Q_BK238
        have HB := Aside0.mk Q_HB
        clear Q_HB
        have HO247 := Aside0.mk (Q_HO247 hb1_)
        clear Q_HO247
        have HO250 := Aside0.mk (Q_HO250 hb4_)
        clear Q_HO250
        have HO254 := Aside0.mk (Q_HO254 hb5_)
        clear Q_HO254
        clear hall hb1_ hb3_ hb4_ hb5_ hb6_ hb7_ hb8_ hb9_ hb10_
        have hcz51_0 : w50.cell? ⟨gb238, 0, none⟩ = some (.int .i64 a2_0) := (blk_cell BK238.out 0).trans (by rfl)
        have hcz51_1 : w50.cell? ⟨gb238, 1, none⟩ = some (.int .i64 a2_1) := (blk_cell BK238.out 1).trans (by rfl)
        have hcz51_2 : w50.cell? ⟨gb238, 2, none⟩ = some (.slice A2_2 l2_2.length c2_2) := (blk_cell BK238.out 2).trans (by rfl)
        have hcz51_3 : w50.cell? ⟨gb238, 3, none⟩ = some (.int .i64 a2_3) := (blk_cell BK238.out 3).trans (by rfl)
        have hfz51_0 := blk_frozen BK238.out 0
        have hfz51_1 := blk_frozen BK238.out 1
        have hfz51_2 := blk_frozen BK238.out 2
        have hfz51_3 := blk_frozen BK238.out 3
        go_upto_region 14 with (first | ((with_reducible refine gate_callee (f := 44) rfl ?_); refine goesL_ (some 97) rfl rfl Try.func44 (by kernel_rfl) rfl #[.agg #[.int .i64 a2_0, .int .i64 a2_1, .slice A2_2 l2_2.length c2_2, .int .i64 a2_3]] rfl (by (try simp only [List.map_toArray, List.map_cons, List.map_nil]); first | done | rfl | (simp only [List.length_drop, List.length_take]; rfl)) ?_; (with_reducible refine (tithelaw22_ticks.calls k2 a2_0 a2_1 _ _ l2_2 a2_3 t256 _ ?side1 ?side2 A38.out).mono ?_); (case side1 => repeat (first | exact (Kd.C_below HR2_2.out HB.out) | (with_reducible refine Kd.C_alloc ?_ _) | (with_reducible refine Kd.C_drewN ?_ _) | (with_reducible refine Kd.C_drew ?_))); (case side2 => exact HC2_2.out); rintro e w52 ⟨v257, rfl, ho0, hb⟩; refine ⟨_, rfl, ?_⟩; have n0_ := Aside0.mk (Kd.R_below (by (with_reducible repeat (first | apply Kd.R_alloc | apply Kd.R_drewN | apply Kd.R_drew)); exact HO247.out) hb); have n1_ := Aside0.mk (Kd.R_below (by (with_reducible repeat (first | apply Kd.R_alloc | apply Kd.R_drewN | apply Kd.R_drew)); exact HO250.out) hb); have n2_ := Aside0.mk (Kd.R_below (by (with_reducible repeat (first | apply Kd.R_alloc | apply Kd.R_drewN | apply Kd.R_drew)); exact HO254.out) hb); have n3_ := Aside0.mk (Kd.R_lower ho0 (below_size (by repeat (first | (with_reducible first | exact HB.out | apply below_alloc | apply pw_below_drewN | apply below_drew1 | refine below_set ?_ GE238.out) | exact HB.out)))); have n4_ := Aside0.mk (blk_below (g := gb238) (o := .cells #[.int .i64 a2_0, .int .i64 a2_1, .slice A2_2 l2_2.length c2_2, .int .i64 a2_3] 66 (0, 0)) (by (with_reducible repeat (first | refine blk_drewN ?_ _ | refine blk_drew ?_ | refine blk_alloc ?_ _)); exact BK238.out) hb); have n5_ := Aside0.mk (below_step (by repeat (first | (with_reducible first | exact HB.out | apply below_alloc | apply pw_below_drewN | apply below_drew1 | refine below_set ?_ GE238.out) | exact HB.out)) hb); clear HO247; clear HO250; clear HO254; clear BK238; clear HB; have HO247 := n0_; have HO250 := n1_; have HO254 := n2_; have HO258 := n3_; have BK238 := n4_; have HB := n5_; clear n0_ n1_ n2_ n3_ n4_ n5_; (try clear hb); (try clear hb2); (try clear hk); (try clear hi); (try clear ho0)) | ((with_reducible refine gate_callee (f := 31) rfl ?_); refine goesL_ (some 100) rfl rfl Try.func31 (by kernel_rfl) rfl #[.slice A0 l0.length c0] rfl (by (try simp only [List.map_toArray, List.map_cons, List.map_nil]); first | done | rfl | (simp only [List.length_drop, List.length_take]; rfl)) ?_; (with_reducible refine (tithelaw22_twin.calls _ _ l0 t259 _ ?side1 ?side2 A39.out).mono ?_); (case side1 => repeat (first | exact (Kd.C_below HR0.out HB.out) | (with_reducible refine Kd.C_alloc ?_ _) | (with_reducible refine Kd.C_drewN ?_ _) | (with_reducible refine Kd.C_drew ?_))); (case side2 => exact HC0.out); rintro e w53 ⟨v260, rfl, ho0, hb⟩; refine ⟨_, rfl, ?_⟩; have n0_ := Aside0.mk (Kd.R_elder' (by (with_reducible repeat (first | apply Kd.R_alloc | apply Kd.R_drewN | apply Kd.R_drew)); exact HO247.out) (Kd.R_base ho0) hb); have n1_ := Aside0.mk (Kd.R_below (by (with_reducible repeat (first | apply Kd.R_alloc | apply Kd.R_drewN | apply Kd.R_drew)); exact HO250.out) hb); have n2_ := Aside0.mk (Kd.R_below (by (with_reducible repeat (first | apply Kd.R_alloc | apply Kd.R_drewN | apply Kd.R_drew)); exact HO254.out) hb); have n3_ := Aside0.mk (Kd.R_below (by (with_reducible repeat (first | apply Kd.R_alloc | apply Kd.R_drewN | apply Kd.R_drew)); exact HO258.out) hb); have n4_ := Aside0.mk (Kd.R_lower (Kd.R_new' ho0 (Kd.R_lt (by (with_reducible repeat (first | apply Kd.R_alloc | apply Kd.R_drewN | apply Kd.R_drew)); exact HO247.out))) (below_size (by repeat (first | (with_reducible first | exact HB.out | apply below_alloc | apply pw_below_drewN | apply below_drew1 | refine below_set ?_ GE238.out) | exact HB.out)))); have n5_ := Aside0.mk (blk_below (g := gb238) (o := .cells #[.int .i64 a2_0, .int .i64 a2_1, .slice A2_2 l2_2.length c2_2, .int .i64 a2_3] 66 (0, 0)) (by (with_reducible repeat (first | refine blk_drewN ?_ _ | refine blk_drew ?_ | refine blk_alloc ?_ _)); exact BK238.out) hb); have n6_ := Aside0.mk (below_step (by repeat (first | (with_reducible first | exact HB.out | apply below_alloc | apply pw_below_drewN | apply below_drew1 | refine below_set ?_ GE238.out) | exact HB.out)) hb); clear HO247; clear HO250; clear HO254; clear HO258; clear BK238; clear HB; have HO247 := n0_; have HO250 := n1_; have HO254 := n2_; have HO258 := n3_; have HO261 := n4_; have BK238 := n5_; have HB := n6_; clear n0_ n1_ n2_ n3_ n4_ n5_ n6_; (try clear hb); (try clear hb2); (try clear hk); (try clear hi); (try clear ho0); obtain ⟨Ao54, co54, eo54⟩ := Kd.R_slice HO261.out; subst eo54; obtain ⟨Ao55, co55, eo55⟩ := Kd.R_slice HO258.out; subst eo55) | ((with_reducible refine gate_callee (f := 42) rfl ?_); refine goesL_ (some 103) rfl rfl Try.func42 (by kernel_rfl) rfl #[.slice Ao54 t259.length co54, .slice A1 l1.length c1, .slice Ao55 t256.length co55] rfl (by (try simp only [List.map_toArray, List.map_cons, List.map_nil]); first | done | rfl | (simp only [List.length_drop, List.length_take]; rfl)) ?_; (with_reducible refine (response_Play.calls k2 _ _ t259 _ _ l1 _ _ t256 t262 t263 _ ?side1 ?side2 ?side3 ?side4 ?side5 ?side6 A40.out).mono ?_); (case side1 => repeat (first | exact (Kd.R_reads' HO261.out).2.2 | (with_reducible refine Kd.C_alloc ?_ _) | (with_reducible refine Kd.C_drewN ?_ _) | (with_reducible refine Kd.C_drew ?_))); (case side2 => exact (Kd.R_reads' HO261.out).2.1); (case side3 => repeat (first | exact (Kd.C_below HR1.out HB.out) | (with_reducible refine Kd.C_alloc ?_ _) | (with_reducible refine Kd.C_drewN ?_ _) | (with_reducible refine Kd.C_drew ?_))); (case side4 => exact HC1.out); (case side5 => repeat (first | exact (Kd.R_reads' HO258.out).2.2 | (with_reducible refine Kd.C_alloc ?_ _) | (with_reducible refine Kd.C_drewN ?_ _) | (with_reducible refine Kd.C_drew ?_))); (case side6 => exact (Kd.R_reads' HO258.out).2.1); rintro e w56 ⟨v264, rfl, ho0, hb⟩; refine ⟨_, rfl, ?_⟩; have n0_ := Aside0.mk (Kd.R_below (by (with_reducible repeat (first | apply Kd.R_alloc | apply Kd.R_drewN | apply Kd.R_drew)); exact HO247.out) hb); have n1_ := Aside0.mk (Kd.R_below (by (with_reducible repeat (first | apply Kd.R_alloc | apply Kd.R_drewN | apply Kd.R_drew)); exact HO250.out) hb); have n2_ := Aside0.mk (Kd.R_elder' (by (with_reducible repeat (first | apply Kd.R_alloc | apply Kd.R_drewN | apply Kd.R_drew)); exact HO254.out) (Kd.R_base ho0) hb); have n3_ := Aside0.mk (Kd.R_below (by (with_reducible repeat (first | apply Kd.R_alloc | apply Kd.R_drewN | apply Kd.R_drew)); exact HO258.out) hb); have n4_ := Aside0.mk (Kd.R_below (by (with_reducible repeat (first | apply Kd.R_alloc | apply Kd.R_drewN | apply Kd.R_drew)); exact HO261.out) hb); have n5_ := Aside0.mk (Kd.R_lower (Kd.R_new' ho0 (Kd.R_lt (by (with_reducible repeat (first | apply Kd.R_alloc | apply Kd.R_drewN | apply Kd.R_drew)); exact HO254.out))) (below_size (by repeat (first | (with_reducible first | exact HB.out | apply below_alloc | apply pw_below_drewN | apply below_drew1 | refine below_set ?_ GE238.out) | exact HB.out)))); have n6_ := Aside0.mk (blk_below (g := gb238) (o := .cells #[.int .i64 a2_0, .int .i64 a2_1, .slice A2_2 l2_2.length c2_2, .int .i64 a2_3] 66 (0, 0)) (by (with_reducible repeat (first | refine blk_drewN ?_ _ | refine blk_drew ?_ | refine blk_alloc ?_ _)); exact BK238.out) hb); have n7_ := Aside0.mk (below_step (by repeat (first | (with_reducible first | exact HB.out | apply below_alloc | apply pw_below_drewN | apply below_drew1 | refine below_set ?_ GE238.out) | exact HB.out)) hb); clear HO247; clear HO250; clear HO254; clear HO258; clear HO261; clear BK238; clear HB; have HO247 := n0_; have HO250 := n1_; have HO254 := n2_; have HO258 := n3_; have HO261 := n4_; have HO265 := n5_; have BK238 := n6_; have HB := n7_; clear n0_ n1_ n2_ n3_ n4_ n5_ n6_ n7_; (try clear hb); (try clear hb2); (try clear hk); (try clear hi); (try clear ho0); (try simp only [errW_none, errW_some])) | ((with_reducible refine gate_callee (f := 13) rfl ?_); refine goesL_ (some 108) rfl rfl Try.func13 (by kernel_rfl) rfl #[.slice A0 l0.length c0] rfl (by (try simp only [List.map_toArray, List.map_cons, List.map_nil]); first | done | rfl | (simp only [List.length_drop, List.length_take]; rfl)) ?_; (with_reducible refine (titheref20_Order.calls k2 _ _ l0 t266 t267 _ ?side1 ?side2 A41.out).mono ?_); (case side1 => repeat (first | exact (Kd.C_below HR0.out HB.out) | (with_reducible refine Kd.C_alloc ?_ _) | (with_reducible refine Kd.C_drewN ?_ _) | (with_reducible refine Kd.C_drew ?_))); (case side2 => exact HC0.out); rintro e w57 ⟨v268, rfl, ho0, hb⟩; refine ⟨_, rfl, ?_⟩; have n0_ := Aside0.mk (Kd.R_below (by (with_reducible repeat (first | apply Kd.R_alloc | apply Kd.R_drewN | apply Kd.R_drew)); exact HO247.out) hb); have n1_ := Aside0.mk (Kd.R_below (by (with_reducible repeat (first | apply Kd.R_alloc | apply Kd.R_drewN | apply Kd.R_drew)); exact HO250.out) hb); have n2_ := Aside0.mk (Kd.R_elder' (by (with_reducible repeat (first | apply Kd.R_alloc | apply Kd.R_drewN | apply Kd.R_drew)); exact HO254.out) (Kd.R_base ho0) hb); have n3_ := Aside0.mk (Kd.R_below (by (with_reducible repeat (first | apply Kd.R_alloc | apply Kd.R_drewN | apply Kd.R_drew)); exact HO258.out) hb); have n4_ := Aside0.mk (Kd.R_below (by (with_reducible repeat (first | apply Kd.R_alloc | apply Kd.R_drewN | apply Kd.R_drew)); exact HO261.out) hb); have n5_ := Aside0.mk (Kd.R_elder' (by (with_reducible repeat (first | apply Kd.R_alloc | apply Kd.R_drewN | apply Kd.R_drew)); exact HO265.out) (Kd.R_base ho0) hb); have n6_ := Aside0.mk (Kd.R_lower (Kd.R_new' (Kd.R_new' ho0 (Kd.R_lt (by (with_reducible repeat (first | apply Kd.R_alloc | apply Kd.R_drewN | apply Kd.R_drew)); exact HO254.out))) (Kd.R_lt (by (with_reducible repeat (first | apply Kd.R_alloc | apply Kd.R_drewN | apply Kd.R_drew)); exact HO265.out))) (below_size (by repeat (first | (with_reducible first | exact HB.out | apply below_alloc | apply pw_below_drewN | apply below_drew1 | refine below_set ?_ GE238.out) | exact HB.out)))); have n7_ := Aside0.mk (blk_below (g := gb238) (o := .cells #[.int .i64 a2_0, .int .i64 a2_1, .slice A2_2 l2_2.length c2_2, .int .i64 a2_3] 66 (0, 0)) (by (with_reducible repeat (first | refine blk_drewN ?_ _ | refine blk_drew ?_ | refine blk_alloc ?_ _)); exact BK238.out) hb); have n8_ := Aside0.mk (below_step (by repeat (first | (with_reducible first | exact HB.out | apply below_alloc | apply pw_below_drewN | apply below_drew1 | refine below_set ?_ GE238.out) | exact HB.out)) hb); clear HO247; clear HO250; clear HO254; clear HO258; clear HO261; clear HO265; clear BK238; clear HB; have HO247 := n0_; have HO250 := n1_; have HO254 := n2_; have HO258 := n3_; have HO261 := n4_; have HO265 := n5_; have HO269 := n6_; have BK238 := n7_; have HB := n8_; clear n0_ n1_ n2_ n3_ n4_ n5_ n6_ n7_ n8_; (try clear hb); (try clear hb2); (try clear hk); (try clear hi); (try clear ho0)))
        (try simp only [Act.put, List.setIfInBounds_toArray, List.set_cons_zero, List.set_cons_succ])
        go_cut [130] (fun v130 wc => ∃ (kq : Nat) (x130_41 : Bool), v130 = .bool x130_41 ∧ Aside0 (tithelaw22_ResponseSound.j2 kq l0 l1 t251 t256 t262 t266 x130_41 a2_0 a2_1 l2_2 a2_3 = some r) ∧ Aside0 (kq ≤ k2) ∧ Aside0 (Kd.R (Kd.int .i64) 3 wc w.heap.size (fun k_ => some k_ ≠ (v264 : Value).ownBlock ∧ some k_ ≠ (v268 : Value).ownBlock) v253 t251) ∧ Aside0 (Kd.R Kd.bool 4 wc w.heap.size (fun _ => True) (.slice Ao55 t256.length co55) t256) ∧ Aside0 (Kd.R (Kd.int .i64) 3 wc w.heap.size (fun k_ => some k_ ≠ (v253 : Value).ownBlock ∧ some k_ ≠ (v268 : Value).ownBlock) v264 t262) ∧ Aside0 (Kd.R (Kd.int .i64) 3 wc w.heap.size (fun k_ => some k_ ≠ (v253 : Value).ownBlock ∧ some k_ ≠ (v264 : Value).ownBlock) v268 t266) ∧ Aside0 (wc.heap[gb238]? = some (.cells #[.int .i64 a2_0, .int .i64 a2_1, (.slice A2_2 l2_2.length c2_2), .int .i64 a2_3] 66 (0, 0))) ∧ Aside0 (Below w.heap.size w wc))
        case first =>
         as_aux_lemma =>
         have H := HC42.out
         clear HC42
         rcases t263 with _ | q270
         ·have H1 : (if t267 = 0 then (if (t251.length : Int) = (l0.length : Int) then (tithelaw22_ResponseSound.j2 k2 l0 l1 t251 t256 t262 t266 ((t262.length : Int) != (l0.length : Int)) a2_0 a2_1 l2_2 a2_3) else (tithelaw22_ResponseSound.j2 k2 l0 l1 t251 t256 t262 t266 true a2_0 a2_1 l2_2 a2_3)) else (tithelaw22_ResponseSound.j2 k2 l0 l1 t251 t256 t262 t266 true a2_0 a2_1 l2_2 a2_3)) = some r := by rw [if_pos (show (none : Option Int).isNone = true by rfl)] at H; exact H
          clear H
          have H := H1
          clear H1
          try simp only [errW_none, errW_some]
          by_cases c58 : t267 = 0
          ·rw [if_pos c58] at H
           have c58b0 : (t267 == 0) = true := beq_iff_eq.mpr c58
           have c58b1 : (t267 != 0) = false := bne_eq_false_iff_eq.mpr c58
           clear c58
           (first | rw [c58b0] | (simp only [i64_w, i32_w]; rw [c58b0]) | skip)
           by_cases c59 : (t251.length : Int) = (l0.length : Int)
           ·rw [if_pos c59] at H
            have c59b0 : ((t251.length : Int) == (l0.length : Int)) = true := beq_iff_eq.mpr c59
            have c59b1 : ((t251.length : Int) != (l0.length : Int)) = false := bne_eq_false_iff_eq.mpr c59
            have c59b2 : (t251.length == l0.length) = true := by first | simpa using c59 | (simp at c59 ⊢; omega)
            clear c59
            have H' := Aside0.mk H
            clear H
            obtain ⟨Ao60, co60, eo60⟩ := Kd.R_slice HO254.out
            subst eo60
            obtain ⟨Ao61, co61, eo61⟩ := Kd.R_slice HO265.out
            subst eo61
            go_wp2
            go_meet
            case rel => exact ⟨_, (((t262.length : Int) != (l0.length : Int))), (by first | rfl | (simp; done) | (simp [*]; done)), H', ⟨by have := HJ3.out; have := HK2.out; first | omega | exact Nat.le_refl _⟩, ⟨by (with_reducible repeat (first | apply Kd.R_alloc | apply Kd.R_drewN | apply Kd.R_drew)); exact Kd.R_mono HO254.out (fun _ hk => ⟨hk.1.2, hk.2⟩)⟩, ⟨by (with_reducible repeat (first | apply Kd.R_alloc | apply Kd.R_drewN | apply Kd.R_drew)); exact HO258.out⟩, ⟨by (with_reducible repeat (first | apply Kd.R_alloc | apply Kd.R_drewN | apply Kd.R_drew)); exact Kd.R_mono HO265.out (fun _ hk => ⟨hk.1.2, hk.2⟩)⟩, ⟨by (with_reducible repeat (first | apply Kd.R_alloc | apply Kd.R_drewN | apply Kd.R_drew)); exact Kd.R_mono HO269.out (fun _ hk => ⟨hk.1.2, hk.2⟩)⟩, ⟨by (with_reducible repeat (first | refine blk_drewN ?_ _ | refine blk_drew ?_ | refine blk_alloc ?_ _)); exact BK238.out⟩, ⟨by repeat (first | (with_reducible first | exact HB.out | apply below_alloc | apply pw_below_drewN | apply below_drew1 | refine below_set ?_ GE238.out) | exact HB.out)⟩⟩
           ·rw [if_neg c59] at H
            have c59b0 : ((t251.length : Int) == (l0.length : Int)) = false := beq_eq_false_iff_ne.mpr c59
            have c59b1 : ((t251.length : Int) != (l0.length : Int)) = true := bne_iff_ne.mpr c59
            have c59b2 : (t251.length == l0.length) = false := by first | simpa using c59 | (simp at c59 ⊢; omega)
            have H' := Aside0.mk H
            clear H
            obtain ⟨Ao62, co62, eo62⟩ := Kd.R_slice HO254.out
            subst eo62
            go_wp2
            go_meet
            case rel => exact ⟨_, (true), (by first | rfl | (simp; done) | (simp [*]; done)), H', ⟨by have := HJ3.out; have := HK2.out; first | omega | exact Nat.le_refl _⟩, ⟨by (with_reducible repeat (first | apply Kd.R_alloc | apply Kd.R_drewN | apply Kd.R_drew)); exact Kd.R_mono HO254.out (fun _ hk => ⟨hk.1.2, hk.2⟩)⟩, ⟨by (with_reducible repeat (first | apply Kd.R_alloc | apply Kd.R_drewN | apply Kd.R_drew)); exact HO258.out⟩, ⟨by (with_reducible repeat (first | apply Kd.R_alloc | apply Kd.R_drewN | apply Kd.R_drew)); exact Kd.R_mono HO265.out (fun _ hk => ⟨hk.1.2, hk.2⟩)⟩, ⟨by (with_reducible repeat (first | apply Kd.R_alloc | apply Kd.R_drewN | apply Kd.R_drew)); exact Kd.R_mono HO269.out (fun _ hk => ⟨hk.1.2, hk.2⟩)⟩, ⟨by (with_reducible repeat (first | refine blk_drewN ?_ _ | refine blk_drew ?_ | refine blk_alloc ?_ _)); exact BK238.out⟩, ⟨by repeat (first | (with_reducible first | exact HB.out | apply below_alloc | apply pw_below_drewN | apply below_drew1 | refine below_set ?_ GE238.out) | exact HB.out)⟩⟩
          ·rw [if_neg c58] at H
           have c58b0 : (t267 == 0) = false := beq_eq_false_iff_ne.mpr c58
           have c58b1 : (t267 != 0) = true := bne_iff_ne.mpr c58
           (first | rw [c58b0] | (simp only [i64_w, i32_w]; rw [c58b0]) | skip)
           have H' := Aside0.mk H
           clear H
           go_wp2
           go_meet
           case rel => exact ⟨_, (true), (by first | rfl | (simp; done) | (simp [*]; done)), H', ⟨by have := HJ3.out; have := HK2.out; first | omega | exact Nat.le_refl _⟩, ⟨by (with_reducible repeat (first | apply Kd.R_alloc | apply Kd.R_drewN | apply Kd.R_drew)); exact Kd.R_mono HO254.out (fun _ hk => ⟨hk.1.2, hk.2⟩)⟩, ⟨by (with_reducible repeat (first | apply Kd.R_alloc | apply Kd.R_drewN | apply Kd.R_drew)); exact HO258.out⟩, ⟨by (with_reducible repeat (first | apply Kd.R_alloc | apply Kd.R_drewN | apply Kd.R_drew)); exact Kd.R_mono HO265.out (fun _ hk => ⟨hk.1.2, hk.2⟩)⟩, ⟨by (with_reducible repeat (first | apply Kd.R_alloc | apply Kd.R_drewN | apply Kd.R_drew)); exact Kd.R_mono HO269.out (fun _ hk => ⟨hk.1.2, hk.2⟩)⟩, ⟨by (with_reducible repeat (first | refine blk_drewN ?_ _ | refine blk_drew ?_ | refine blk_alloc ?_ _)); exact BK238.out⟩, ⟨by repeat (first | (with_reducible first | exact HB.out | apply below_alloc | apply pw_below_drewN | apply below_drew1 | refine below_set ?_ GE238.out) | exact HB.out)⟩⟩
         ·have H1 : (tithelaw22_ResponseSound.j2 k2 l0 l1 t251 t256 t262 t266 true a2_0 a2_1 l2_2 a2_3) = some r := by rw [if_neg (show ¬ (some q270).isNone = true by simp)] at H; exact H
          clear H
          have H := H1
          clear H1
          try simp only [errW_none, errW_some]
          have H' := Aside0.mk H
          clear H
          go_wp2
          go_meet
          case rel => exact ⟨_, (true), (by first | rfl | (simp; done) | (simp [*]; done)), H', ⟨by have := HJ3.out; have := HK2.out; first | omega | exact Nat.le_refl _⟩, ⟨by (with_reducible repeat (first | apply Kd.R_alloc | apply Kd.R_drewN | apply Kd.R_drew)); exact Kd.R_mono HO254.out (fun _ hk => ⟨hk.1.2, hk.2⟩)⟩, ⟨by (with_reducible repeat (first | apply Kd.R_alloc | apply Kd.R_drewN | apply Kd.R_drew)); exact HO258.out⟩, ⟨by (with_reducible repeat (first | apply Kd.R_alloc | apply Kd.R_drewN | apply Kd.R_drew)); exact Kd.R_mono HO265.out (fun _ hk => ⟨hk.1.2, hk.2⟩)⟩, ⟨by (with_reducible repeat (first | apply Kd.R_alloc | apply Kd.R_drewN | apply Kd.R_drew)); exact Kd.R_mono HO269.out (fun _ hk => ⟨hk.1.2, hk.2⟩)⟩, ⟨by (with_reducible repeat (first | refine blk_drewN ?_ _ | refine blk_drew ?_ | refine blk_alloc ?_ _)); exact BK238.out⟩, ⟨by repeat (first | (with_reducible first | exact HB.out | apply below_alloc | apply pw_below_drewN | apply below_drew1 | refine below_set ?_ GE238.out) | exact HB.out)⟩⟩
        case rest =>
         clear HC42
         try clear c1
         try clear c2
         try clear p2
         try clear q2
         try clear hx2
         try clear c3
         try clear c4
         try clear c5
         try clear p6
         try clear c7
         try clear c7b0
         try clear c7b1
         try clear c8
         try clear c8b0
         try clear c8b1
         try clear c8b2
         try clear c9
         try clear c9b0
         try clear c10
         try clear c12
         try clear c12b0
         try clear c13
         try clear c15
         try clear c15b0
         try clear c18
         try clear c18b0
         try clear c21
         try clear p24
         try clear q24
         try clear hx24
         try clear c25
         try clear q25
         try clear q27
         try clear c28
         try clear c28b0
         try clear c29
         try clear c29b0
         try clear c30
         try clear c30b0
         try clear c31
         try clear c33
         try clear c33b0
         try clear c34
         try clear c39
         try clear c42
         try clear c44
         try clear c58
         try clear c58b0
         try clear c58b1
         try clear c59
         try clear c59b0
         try clear c59b1
         try clear c59b2
         try clear hcz11_0
         try clear hcz11_1
         try clear hcz11_2
         try clear hcz11_3
         try clear hcz14_0
         try clear hcz14_1
         try clear hcz14_2
         try clear hcz14_3
         try clear hcz17_0
         try clear hcz17_1
         try clear hcz17_2
         try clear hcz17_3
         try clear hcz20_0
         try clear hcz20_1
         try clear hcz20_2
         try clear hcz20_3
         try clear hcz22_0
         try clear hcz22_1
         try clear hcz22_2
         try clear hcz22_3
         try clear hcz51_0
         try clear hcz51_1
         try clear hcz51_2
         try clear hcz51_3
         try clear hfz11_0
         try clear hfz11_1
         try clear hfz11_2
         try clear hfz11_3
         try clear hfz14_0
         try clear hfz14_1
         try clear hfz14_2
         try clear hfz14_3
         try clear hfz17_0
         try clear hfz17_1
         try clear hfz17_2
         try clear hfz17_3
         try clear hfz20_0
         try clear hfz20_1
         try clear hfz20_2
         try clear hfz20_3
         try clear hfz22_0
         try clear hfz22_1
         try clear hfz22_2
         try clear hfz22_3
         try clear hfz51_0
         try clear hfz51_1
         try clear hfz51_2
         try clear hfz51_3
         try clear hx241_0
         try clear hx242_0
         try clear p2
         try clear p241
         try clear p242
         try clear q241
         try clear q242
         try clear q255
         try clear q270
         obtain ⟨kq, x130_41, rfl, HA, HJ41, HO_8, HO_10, HO_11, HO_13, BK238, HB⟩ := hcut
         cases kq with
         | zero => exact absurd HA.out (by simp [tithelaw22_ResponseSound.j2])
         | succ kj41 =>
          have H := HA.out
          clear HA
          simp only [tithelaw22_ResponseSound.j2] at H
          by_cases c63 : x130_41 = true
          ·subst c63
           have H1 : (some false) = some r := by rw [if_pos rfl] at H; exact H
           clear H
           have H := H1
           clear H1
           obtain rfl := Option.some.inj H
           go_wp2
           go_ret
           exact ⟨by first | rfl | (simp [errW_none, errW_some] <;> rfl) | (simp [*, errW_none, errW_some] <;> rfl), by repeat (first | (with_reducible first | exact HB.out | apply below_alloc | apply pw_below_drewN | apply below_drew1 | refine below_set ?_ GE238.out) | exact HB.out)⟩
          ·replace c63 := Bool.eq_false_iff.mpr c63
           subst c63
           have H1 : (if 0 ≤ (l0.length : Int) then (if ((l0.length : Int) : Int).toNat ≤ 35184372088832 then (tithelaw22_ResponseSound.l1 kj41 l0 l1 t251 t256 t262 t266 (List.replicate ((l0.length : Int) : Int).toNat 0) (List.replicate ((l0.length : Int) : Int).toNat 0) (List.replicate ((l0.length : Int) : Int).toNat 0) 0 a2_0 a2_1 l2_2 a2_3) else (none)) else (none)) = some r := by rw [if_neg (show ¬ (false = true) by decide)] at H; exact H
           clear H
           have H := H1
           clear H1
           by_cases c64 : 0 ≤ (l0.length : Int)
           ·rw [if_pos c64] at H
            have c64b0 := eq_true c64
            have c64b1 : decide (0 ≤ (l0.length : Int)) = true := decide_eq_true c64
            clear c64
            by_cases c65 : ((l0.length : Int) : Int).toNat ≤ 35184372088832
            ·rw [if_pos c65] at H
             have c65b0 := eq_true c65
             have c65b1 : decide (((l0.length : Int) : Int).toNat ≤ 35184372088832) = true := decide_eq_true c65
             clear c65
             obtain ⟨y271, hy271⟩ : ∃ y_ : List Int, y_ = (List.replicate ((l0.length : Int) : Int).toNat 0) := ⟨_, rfl⟩
             replace H : (tithelaw22_ResponseSound.l1 kj41 l0 l1 t251 t256 t262 t266 y271 (List.replicate ((l0.length : Int) : Int).toNat 0) (List.replicate ((l0.length : Int) : Int).toNat 0) 0 a2_0 a2_1 l2_2 a2_3) = some r := by first | (rw [hy271]; with_reducible exact H) | (have H2_ := (Option.bind_some _ _).symm.trans H; rw [hy271]; with_reducible exact H2_) | (have H2_ := (Option.bind_some _ _).symm.trans H; with_reducible exact H2_) | with_reducible exact H | (rw [hy271]; exact H) | exact H
             have Ny271 := Aside0.mk hy271
             clear hy271
             obtain ⟨y274, hy274⟩ : ∃ y_ : List Int, y_ = (List.replicate ((l0.length : Int) : Int).toNat 0) := ⟨_, rfl⟩
             replace H : (tithelaw22_ResponseSound.l1 kj41 l0 l1 t251 t256 t262 t266 y271 y274 (List.replicate ((l0.length : Int) : Int).toNat 0) 0 a2_0 a2_1 l2_2 a2_3) = some r := by first | (rw [hy274]; with_reducible exact H) | (have H2_ := (Option.bind_some _ _).symm.trans H; rw [hy274]; with_reducible exact H2_) | (have H2_ := (Option.bind_some _ _).symm.trans H; with_reducible exact H2_) | with_reducible exact H | (rw [hy274]; exact H) | exact H
             have Ny274 := Aside0.mk hy274
             clear hy274
             obtain ⟨y277, hy277⟩ : ∃ y_ : List Int, y_ = (List.replicate ((l0.length : Int) : Int).toNat 0) := ⟨_, rfl⟩
             replace H : (tithelaw22_ResponseSound.l1 kj41 l0 l1 t251 t256 t262 t266 y271 y274 y277 0 a2_0 a2_1 l2_2 a2_3) = some r := by first | (rw [hy277]; with_reducible exact H) | (have H2_ := (Option.bind_some _ _).symm.trans H; rw [hy277]; with_reducible exact H2_) | (have H2_ := (Option.bind_some _ _).symm.trans H; with_reducible exact H2_) | with_reducible exact H | (rw [hy277]; exact H) | exact H
             have Ny277 := Aside0.mk hy277
             clear hy277
             have H' := Aside0.mk H
             clear H
             as_aux_lemma =>
               have H := H'.out
               clear H' Ny271 Ny274 Ny277
               unfold tithelaw22_ResponseSound.l1 at H
               by_cases hok : (okO l0 t266 && okT l0 l1 t251 && decide ((t256.length : Int) = a2_3) && decide (t256.length ≤ 4096) && okM l0 l1 (t266.map Int.toNat) t251 t256 0 m0) = true
               case neg => rw [if_neg hok] at H; exact absurd H (by simp)
               rw [if_pos hok] at H
               simp only [Bool.and_eq_true, decide_eq_true_eq] at hok
               obtain ⟨⟨⟨⟨hO, hT⟩, hn⟩, hrow⟩, hM⟩ := hok
               subst hn
               have HOK := Aside0.mk (show (l0.length ≤ 1048576 ∧ ∀ x ∈ l0, 1 ≤ x.f0 ∧ x.f0 ≤ 1152921504606846976 ∧ 1 ≤ x.f1 ∧ x.f1 ≤ 1152921504606846976) ∧ ∀ i ∈ t266, 0 ≤ i ∧ i < (l0.length : Int) from by
                 unfold okO at hO
                 simp only [Bool.and_eq_true, decide_eq_true_eq, List.all_eq_true] at hO
                 exact ⟨⟨hO.1.1, fun x hx => ⟨(hO.1.2 x hx).1.1.1, (hO.1.2 x hx).1.1.2, (hO.1.2 x hx).1.2, (hO.1.2 x hx).2⟩⟩, hO.2⟩)
               have HST := Aside0.mk (show (∀ s ∈ l1, 0 ≤ s ∧ s ≤ 1073741824) ∧ l1.length = l0.length ∧ t251.length = l0.length from by
                 unfold okT at hT
                 simp only [Bool.and_eq_true, decide_eq_true_eq, List.all_eq_true] at hT
                 exact ⟨hT.1.1, hT.1.2, hT.2⟩)
               have HROW := Aside0.mk hrow
               have HM := Aside0.mk hM
               have HH := Aside0.mk H
               clear H hO hT hrow hM
               obtain ⟨A8, c8, e8⟩ := Kd.R_slice HO_8.out
               obtain ⟨A11, c11, e11⟩ := Kd.R_slice HO_11.out
               obtain ⟨A13, c13, e13⟩ := Kd.R_slice HO_13.out
               subst e8 e11 e13
               have HK8 := Aside0.mk (Kd.R_reads' HO_8.out).2.2
               have HK10 := Aside0.mk (Kd.R_reads' HO_10.out).2.2
               have HK11 := Aside0.mk (Kd.R_reads' HO_11.out).2.2
               have HC11 := Aside0.mk (Kd.R_reads' HO_11.out).2.1
               have HK13 := Aside0.mk (Kd.R_reads' HO_13.out).2.2
               clear HO_8 HO_10 HO_11 HO_13
               have hmk23 : ∀ W : World, (Instr.makeSlice 23 (.int .i64 (l0.length : Int)) (.int .i64 (l0.length : Int))).run Try.prog W = .ok (.slice (some ⟨W.heap.size, 0, none⟩) l0.length l0.length) (W.alloc (.cells (madeCells #[Value.int .i64 0] l0.length) 3)) := by
                 intro W
                 have hl := HOK.out.1.1
                 obtain ⟨i0, hi, hzz⟩ := Option.map_eq_some_iff.1 info3
                 simp only [Prod.mk.injEq] at hzz
                 obtain ⟨hz0, hz1, hz2⟩ := hzz
                 have := run_make (P := Try.prog) W 23 3 i0 (.int .i64 0) Try.underlying23 hi hz0 .i64 .i64 (l0.length : Int) (l0.length : Int) (by omega) (by omega) (by rw [hz2]; omega) (by omega)
                 rw [hz1] at this
                 simp only [Int.toNat_natCast, Nat.mul_one] at this
                 exact this
               have hl0 := HOK.out.1.1
               have hmix : Try.prog.follows .mixedOrders = true := by kernel_rfl
               have HPS := Aside0.mk (S3.start l0.length wc)
               have HBW := Aside0.mk (show Below wc.heap.size wc (((wc.alloc (.cells (madeCells #[Value.int .i64 0] l0.length) 3)).alloc (.cells (madeCells #[Value.int .i64 0] l0.length) 3)).alloc (.cells (madeCells #[Value.int .i64 0] l0.length) 3)) from (((Below.refl _ wc).alloc (Nat.le_refl _) _).alloc (by simp) _).alloc (by simp; omega) _)
               have HSZ := Aside0.mk (show (((wc.alloc (.cells (madeCells #[Value.int .i64 0] l0.length) 3)).alloc (.cells (madeCells #[Value.int .i64 0] l0.length) 3)).alloc (.cells (madeCells #[Value.int .i64 0] l0.length) 3)).heap.size = wc.heap.size + 3 from by simp)
               go_wp2
               generalize ((wc.alloc (.cells (madeCells #[Value.int .i64 0] l0.length) 3)).alloc (.cells (madeCells #[Value.int .i64 0] l0.length) 3)).alloc (.cells (madeCells #[Value.int .i64 0] l0.length) 3) = W0 at HPS HBW HSZ ⊢
               clear hmk23
               rw [show wc.heap.size + 2 = wc.heap.size + 1 + 1 from rfl] at HPS
               have HBO : ∀ {f g h : Nat → Int} {W : World}, S3 l0.length wc.heap.size (wc.heap.size + 1) (wc.heap.size + 1 + 1) (wc.heap.size + 3) W0 f g h W → Below wc.heap.size wc W := fun h => S3.below h HBW.out (Nat.le_refl _) (by omega) (by omega) (by rw [HSZ.out]; omega)
               have HBP : ∀ {f g h : Nat → Int} {W : World}, S3 l0.length wc.heap.size (wc.heap.size + 1) (wc.heap.size + 1 + 1) (wc.heap.size + 3) W0 f g h W → Below w.heap.size w W := fun h => HB.out.trans ((HBO h).mono HB.out.size)
               have HBO := Aside0.mk @HBO
               have HBP := Aside0.mk @HBP
               obtain ⟨b0, hb0⟩ : ∃ b0, b0 = wc.heap.size + 3 := ⟨_, rfl⟩
               obtain ⟨bm, hbm⟩ : ∃ bm, bm = wc.heap.size + 1 + 1 := ⟨_, rfl⟩
               obtain ⟨bc, hbc⟩ : ∃ bc, bc = wc.heap.size + 1 := ⟨_, rfl⟩
               obtain ⟨bl, hbl⟩ : ∃ bl, bl = wc.heap.size := ⟨_, rfl⟩
               have HBK : ∀ {W : World}, Below wc.heap.size wc W → W.cell? ⟨gb238, 3, none⟩ = some (.int .i64 (t256.length : Int)) ∧ W.frozen? ⟨gb238, 3, none⟩ = false := fun hb => ⟨(blk_cell (blk_below BK238.out hb) 3).trans (by rfl), blk_frozen (blk_below BK238.out hb) 3⟩
               have HBK := Aside0.mk @HBK
               rw [← hb0, ← hbm, ← hbc] at HPS HBO HBP
               have HPS := HPS.out
               have HBO' : ∀ {f g h : Nat → Int} {W : World}, S3 l0.length bl bc bm b0 W0 f g h W → Below wc.heap.size wc W := by rw [hbl]; exact @HBO.out
               have HBP' : ∀ {f g h : Nat → Int} {W : World}, S3 l0.length bl bc bm b0 W0 f g h W → Below w.heap.size w W := by rw [hbl]; exact @HBP.out
               rw [← hbl] at HPS
               have HPS := Aside0.mk HPS
               have HBO := Aside0.mk @HBO'
               have HBP := Aside0.mk @HBP'
               clear HBO' HBP'
               rw [← hbm, ← hbc, ← hbl]
               clear hb0 hbm hbc hbl HBW HSZ
               have hrm := HROW.out
               have homax := Kd.C_max HK13.out
               go_loopg [18] t256.length (fun gg v18 wr => ∃ (t : Nat) (x : Sm), t ≤ t256.length ∧ v18 = .int .i64 (t : Int) ∧ t256.length - t ≤ gg ∧ Aside0 (S3 l0.length bl bc bm b0 W0 x.lf x.cm x.mo wr) ∧ Aside0 (InvM l0.length x) ∧ Aside0 (runM l0 l1 (t266.map Int.toNat) (t256.drop t) (t : Int) x = runM l0 l1 (t266.map Int.toNat) t256 0 m0) ∧ Aside0 (okM l0 l1 (t266.map Int.toNat) t251 (t256.drop t) (t : Int) x = true))
               case atStart => exact ⟨0, m0, by omega, rfl, by omega, HPS, ⟨InvM.zero _⟩, ⟨rfl⟩, ⟨HM.out⟩⟩
               case round =>
                 clear HPS HM
                 obtain ⟨t, x, htl, rfl, hgg, HP, HI, HRUN, HOKM⟩ := hrel
                 obtain ⟨hbk, hbf⟩ := HBK.out (HBO.out HP.out)
                 by_cases htt : t < t256.length
                 · have httz : (t : Int) < (t256.length : Int) := by omega
                   have httd : decide ((t : Int) < (t256.length : Int)) = true := decide_eq_true httz
                   have ht0 : 0 ≤ (t : Int) := by omega
                   have htm : t < 4096 := by omega
                   obtain ⟨gv, hgv⟩ : ∃ g, rdOf false t256 (t : Int) = g := ⟨_, rfl⟩
                   have HGV := Aside0.mk hgv
                   have hsp : t256.drop t = gv :: t256.drop (t + 1) := by
                     rw [List.drop_eq_getElem_cons htt, ← hgv]
                     simp [rdOf, htt]
                   obtain ⟨z, hz⟩ : ∃ z, z = tickM l0 l1 (t266.map Int.toNat) (t : Int) gv x := ⟨_, rfl⟩
                   have HST2 := Aside0.mk (show runM l0 l1 (t266.map Int.toNat) (t256.drop (t + 1)) ((t + 1 : Nat) : Int) z = runM l0 l1 (t266.map Int.toNat) t256 0 m0 from by
                     rw [← HRUN.out, hsp, hz, show ((t + 1 : Nat) : Int) = (t : Int) + 1 by omega]
                     rfl)
                   have hok3 := HOKM.out
                   rw [hsp] at hok3
                   unfold okM at hok3
                   rw [← hz, Bool.and_eq_true, Bool.and_eq_true] at hok3
                   have HREL := Aside0.mk hok3.1.1
                   have HEND := Aside0.mk hok3.1.2
                   have HOK2 := Aside0.mk (show okM l0 l1 (t266.map Int.toNat) t251 (t256.drop (t + 1)) ((t + 1 : Nat) : Int) z = true from by
                     rw [show ((t + 1 : Nat) : Int) = (t : Int) + 1 by omega]
                     exact hok3.2)
                   have HZ := Aside0.mk hz
                   clear hgv hsp hz hok3 HRUN HOKM
                   go_wp2
                   go_loopg [19] l0.length (fun g2 v19 wr2 => ∃ kk : Nat, kk ≤ l0.length ∧ v19 = .int .i64 (kk : Int) ∧ l0.length - kk ≤ g2 ∧ Aside0 (S3 l0.length bl bc bm b0 W0 (relM l0 l1 (t : Int) kk x).lf (relM l0 l1 (t : Int) kk x).cm x.mo wr2))
                   case atStart => exact ⟨0, by omega, rfl, by omega, ⟨by rw [relM_zero]; exact HP.out⟩⟩
                   case round =>
                     clear HP hbk hbf
                     obtain ⟨kk, hkk, rfl, hg2, HP⟩ := hrel
                     by_cases hlt : kk < l0.length
                     · have hltz : (kk : Int) < (l0.length : Int) := by omega
                       have hltd : decide ((kk : Int) < (l0.length : Int)) = true := decide_eq_true hltz
                       have hk0 : 0 ≤ (kk : Int) := by omega
                       obtain ⟨ad, e1, x0, x1, x2, x3⟩ := at_T43 (Kd.C_below HR0.out (HBP.out HP.out)) (kk : Int) hk0 hltz
                       cases e1
                       generalize hx : rd_T43 l0 (kk : Int) = p at x0 x1 x2 x3
                       have HXX := Aside0.mk hx
                       clear hx
                       simp only [Int.toNat_natCast] at x0 x1 x2 x3
                       obtain ⟨ad3, e1, z0⟩ := Kd.at_int (Kd.C_below HR1.out (HBP.out HP.out)) (kk : Int) hk0 (by have := HST.out.2.1; omega)
                       cases e1
                       have hltz1 : (kk : Int) < (l1.length : Int) := by have := HST.out.2.1; omega
                       have HSG := Aside0.mk (show 0 ≤ rd l1 (kk : Int) ∧ rd l1 (kk : Int) ≤ 1073741824 from by
                         have hkl : kk < l1.length := by have := HST.out.2.1; omega
                         rw [show rd l1 (kk : Int) = l1[kk] by simp [rd, List.getD, hkl]]
                         exact HST.out.1 _ (List.getElem_mem hkl))
                       generalize hs : rd l1 (kk : Int) = s at z0 HSG
                       have HSS := Aside0.mk hs
                       clear hs
                       simp only [Int.toNat_natCast] at z0
                       have HPP := Aside0.mk (show 1 ≤ p.f0 ∧ p.f0 ≤ 1152921504606846976 ∧ 1 ≤ p.f1 ∧ p.f1 ≤ 1152921504606846976 from by
                         have := HOK.out.1.2 p (by rw [← HXX.out, show rd_T43 l0 (kk : Int) = l0[kk] by simp [rd_T43, List.getD, hlt]]; exact List.getElem_mem hlt)
                         exact this)
                       have hp0 : p.f0 ≠ 0 := by have := HPP.out; omega
                       have hkl : IntKind.i64.wrap (kk : Int) = (kk : Int) := by rw [IntKind.wrap_i64]; omega
                       have HL := HP.out.ra.rd hlt
                       rw [relM_lf] at HL
                       obtain ⟨hL1, hL2⟩ := HL
                       generalize hlf : x.lf kk = lf at hL1
                       have HLF := Aside0.mk hlf
                       clear hlf
                       by_cases q1 : s ≤ (t : Int)
                       · have q1d : decide ((t : Int) ≥ s) = true := decide_eq_true q1
                         have hts : IntKind.i64.wrap ((t : Int) - s) = (t : Int) - s := by have := HSG.out; rw [IntKind.wrap_i64]; omega
                         obtain ⟨m, hm⟩ : ∃ m, Int.tmod ((t : Int) - s) p.f0 = m := ⟨_, rfl⟩
                         have hme : m = ((t : Int) - s) % p.f0 := by rw [← hm]; exact Int.tmod_eq_emod_of_nonneg (by omega)
                         have hmr : 0 ≤ m ∧ m < p.f0 := by
                           have := HPP.out
                           rw [hme]; exact ⟨Int.emod_nonneg _ hp0, Int.emod_lt_of_pos _ (by omega)⟩
                         have hmw : IntKind.i64.wrap m = m := by have := HPP.out; rw [IntKind.wrap_i64]; omega
                         have HRC := Aside0.mk (show rc l0 l1 (t : Int) kk = decide (m = 0) from by unfold rc; rw [HSS.out, HXX.out, ← hme, decide_eq_true q1]; rfl)
                         clear hme
                         by_cases q2 : m = 0
                         · as_aux_lemma =>
                           have q2b : (m == 0) = true := by rw [q2]; rfl
                           have HRT := Aside0.mk (HRC.out.trans (decide_eq_true q2))
                           clear HRC
                           subst q2
                           have hlz : ¬ 0 < lf := by rw [← HLF.out]; exact okRel_at HREL.out hlt HRT.out
                           have hld : decide (lf > 0) = false := decide_eq_false hlz
                           go_wp2_with fail
                           go_big_region_o
                           have HP2 := Aside0.mk HP.out.drew
                           have y1 : wr.drew.cell? ⟨_, _, _⟩ = some (.int .i64 p.f1) := x1
                           have hL1' : wr.drew.cell? ⟨bl, kk, none⟩ = some (.int .i64 lf) := hL1
                           have hL2' : wr.drew.frozen? ⟨bl, kk, none⟩ = false := hL2
                           clear HP x0 x1 x2 x3 z0 hL1 hL2
                           generalize wr.drew = w3 at HP2 y1 hL1' hL2' ⊢
                           go_upto_region 29 with (fail)
                           have HP3 := Aside0.mk (HP2.out.setA hlt p.f1)
                           clear HP2 y1 hL1' hL2'
                           generalize w3.setCell ⟨bl, kk, none⟩ (.int .i64 p.f1) = w4 at HP3 ⊢
                           obtain ⟨hC1, hC2⟩ := HP3.out.rb.rd hlt
                           have HRS := Aside0.mk (relM_some x HRT.out)
                           have HP4 := Aside0.mk (HP3.out.setB hlt (t : Int))
                           go_wp2
                           go_roundg (l0.length - (kk + 1))
                           case measure => omega
                           case rel => exact ⟨kk + 1, by omega, by first | rfl | go_num | (congr 1; unfold wrap64; omega) | (congr 1; omega), by omega, ⟨by rw [HRS.out.1, HRS.out.2.1, HXX.out]; exact HP4.out⟩⟩
                         · as_aux_lemma =>
                           have q2b : (m == 0) = false := beq_eq_false_iff_ne.2 q2
                           have HRF := Aside0.mk (HRC.out.trans (decide_eq_false q2))
                           clear HRC
                           go_wp2_with fail
                           go_big_region_o
                           have HP2 := Aside0.mk HP.out.drew
                           clear HP x0 x1 x2 x3 z0 hL1 hL2
                           generalize wr.drew = w3 at HP2 ⊢
                           go_wp2
                           go_roundg (l0.length - (kk + 1))
                           case measure => omega
                           case rel => exact ⟨kk + 1, by omega, by first | rfl | go_num | (congr 1; unfold wrap64; omega) | (congr 1; omega), by omega, ⟨by rw [relM_not _ HRF.out]; exact HP2.out⟩⟩
                       · as_aux_lemma =>
                         have q1d : decide ((t : Int) ≥ s) = false := decide_eq_false q1
                         have HRC := Aside0.mk (show rc l0 l1 (t : Int) kk = false from by unfold rc; rw [HSS.out, decide_eq_false q1]; rfl)
                         go_wp2_with fail
                         go_big_region_o
                         have HP2 := Aside0.mk HP.out.drew
                         clear HP x0 x1 x2 x3 z0 hL1 hL2
                         generalize wr.drew = w3 at HP2 ⊢
                         go_wp2
                         go_roundg (l0.length - (kk + 1))
                         case measure => omega
                         case rel => exact ⟨kk + 1, by omega, by first | rfl | go_num | (congr 1; unfold wrap64; omega) | (congr 1; omega), by omega, ⟨by rw [relM_not _ HRC.out]; exact HP2.out⟩⟩
                     · obtain rfl : kk = l0.length := by omega
                       have hltd : decide ((l0.length : Int) < (l0.length : Int)) = false := decide_eq_false (by omega)
                       obtain ⟨y, hy⟩ : ∃ y, y = relM l0 l1 (t : Int) l0.length x := ⟨_, rfl⟩
                       have hout : x.mo = y.mo := by rw [hy]; rfl
                       rw [← hy, hout] at HP
                       have HCC := Aside0.mk (show ∀ k, k < l0.length → 1 ≤ (rd_T43 l0 (k : Int)).f1 ∧ (rd_T43 l0 (k : Int)).f1 ≤ 1152921504606846976 from by
                         intro k hk
                         have h := HOK.out.1.2 (rd_T43 l0 (k : Int)) (by rw [show rd_T43 l0 (k : Int) = l0[k] by simp [rd_T43, List.getD, hk]]; exact List.getElem_mem hk)
                         exact h.2.2)
                       have HIY := Aside0.mk (show InvM l0.length y from by rw [hy]; exact HI.out.rel _ (by omega) HCC.out)
                       have HZY := Aside0.mk (show z = if gv = true then giveM (t : Int) (t266.map Int.toNat) y else y from by rw [HZ.out, hy]; rfl)
                       have HIZ := Aside0.mk (show InvM l0.length z from by
                         rw [HZY.out]
                         split
                         · exact HIY.out.give _
                         · exact HIY.out)
                       clear hy hout HZ
                       go_upto_block 6 with (fail)
                       go_cut [] (fun w7 => Aside0 (S3 l0.length bl bc bm b0 W0 z.lf z.cm z.mo w7))
                       case first =>
                         go_wp2_with fail
                         go_loopg [20] t266.length (fun g3 v20 wr3 => ∃ p : Nat, p ≤ t266.length ∧ v20 = .int .i64 (p : Int) ∧ t266.length - p ≤ g3 ∧ Aside0 (S3 l0.length bl bc bm b0 W0 y.lf y.cm y.mo wr3) ∧ Aside0 (z = if gv = true then giveM (t : Int) ((t266.map Int.toNat).drop p) y else y))
                         case atStart => exact ⟨0, by omega, rfl, by omega, HP, ⟨HZY.out⟩⟩
                         case round =>
                           clear HP HZY
                           obtain ⟨p, hp, rfl, hg3, HP, HG3⟩ := hrel
                           obtain ⟨ad2, e1, xb⟩ := Kd.at_bool (Kd.C_below HK10.out (HBO.out HP.out)) (t : Int) ht0 (by omega)
                           cases e1
                           rw [HGV.out] at xb
                           simp only [Int.toNat_natCast] at xb
                           by_cases hpt : p < t266.length
                           · have hpz : (p : Int) < (t266.length : Int) := by omega
                             have hpd : decide ((p : Int) < (t266.length : Int)) = true := decide_eq_true hpz
                             have hp0 : 0 ≤ (p : Int) := by omega
                             cases gv with
                             | false =>
                               have HZE := Aside0.mk (show z = y from by rw [HG3.out, if_neg (by simp)])
                               go_wp2
                               go_meet
                               case rel => exact ⟨by rw [HZE.out]; exact HP.out⟩
                             | true =>
                               obtain ⟨ad4, e1, z0⟩ := Kd.at_int (Kd.C_below HK13.out (HBO.out HP.out)) (p : Int) hp0 hpz
                               cases e1
                               have hrp : rd t266 (p : Int) = t266[p] := by simp [rd, List.getD, hpt]
                               have hmem := HOK.out.2 t266[p] (List.getElem_mem hpt)
                               obtain ⟨i, hi⟩ : ∃ i : Nat, t266[p] = (i : Int) := ⟨t266[p].toNat, by omega⟩
                               have hin : i < l0.length := by omega
                               have hdrop : (t266.map Int.toNat).drop p = i :: (t266.map Int.toNat).drop (p + 1) := by
                                 rw [List.drop_eq_getElem_cons (by rw [List.length_map]; exact hpt)]
                                 congr 1
                                 rw [List.getElem_map, hi]; simp
                               rw [hrp, hi] at z0
                               simp only [Int.toNat_natCast] at z0
                               have hg4 := HG3.out
                               rw [if_pos rfl, hdrop] at hg4
                               have HG4 := Aside0.mk hg4
                               clear hrp hmem hi hdrop hg4 HG3
                               have hinz : (i : Int) < (l0.length : Int) := by omega
                               have hi0 : 0 ≤ (i : Int) := by omega
                               obtain ⟨hL1, hL2⟩ := HP.out.ra.rd hin
                               have HLB := Aside0.mk (HIY.out.lf i hin)
                               have HCB := Aside0.mk (HIY.out.cm i hin)
                               generalize hlf : y.lf i = lf at hL1 HLB
                               have HLF := Aside0.mk hlf
                               clear hlf
                               by_cases hl : 0 < lf
                               · as_aux_lemma =>
                                 have hld : decide (lf > 0) = true := decide_eq_true hl
                                 have hlw : IntKind.i64.wrap (lf - 1) = lf - 1 := by have := HLB.out; rw [IntKind.wrap_i64]; omega
                                 by_cases hl1 : lf = 1
                                 · subst hl1
                                   have HZE := Aside0.mk (show z = ⟨upd y.lf i 0, y.cm, upd y.mo i (max (y.mo i) ((t : Int) + 1 - y.cm i))⟩ from by rw [HG4.out, giveM_last HLF.out])
                                   go_upto_region 36 with (fail)
                                   have HP3 := Aside0.mk (HP.out.setA hin 0)
                                   clear hL1 hL2 HP z0 xb
                                   generalize wr.setCell ⟨bl, i, none⟩ (.int .i64 0) = w4 at HP3 ⊢
                                   have hL1 := (HP3.out.ra.rd hin).1
                                   rw [upd_same] at hL1
                                   obtain ⟨hC1, hC2⟩ := HP3.out.rb.rd hin
                                   obtain ⟨hM1, hM2⟩ := HP3.out.rc.rd hin
                                   generalize hci : y.cm i = ci at hC1 HCB HZE
                                   generalize hmi : y.mo i = mi at hM1 HZE
                                   clear hci hmi
                                   have ht1 : IntKind.i64.wrap ((t : Int) + 1) = (t : Int) + 1 := by rw [IntKind.wrap_i64]; omega
                                   have hta : IntKind.i64.wrap ((t : Int) + 1 - ci) = (t : Int) + 1 - ci := by have := HCB.out; rw [IntKind.wrap_i64]; omega
                                   go_wp2_with fail
                                   go_big_region_o
                                   have HP5 := Aside0.mk ((HP3.out.setC hin (max mi ((t : Int) + 1 - ci))).drew)
                                   clear hL1 hC1 hC2 hM1 hM2 HP3
                                   generalize (w4.setCell ⟨bm, i, none⟩ (.int .i64 (max mi ((t : Int) + 1 - ci)))).drew = w5 at HP5 ⊢
                                   go_wp2
                                   go_meet
                                   case rel => exact ⟨by rw [HZE.out]; exact HP5.out⟩
                                 · have hl1z : ¬ (lf - 1 = 0) := by omega
                                   have hl1b : ((lf - 1) == 0) = false := beq_eq_false_iff_ne.2 hl1z
                                   have HZE := Aside0.mk (show z = ⟨upd y.lf i (lf - 1), y.cm, y.mo⟩ from by
                                     rw [HG4.out, giveM_less (by rw [HLF.out]; exact hl) (by rw [HLF.out]; exact hl1), HLF.out])
                                   go_upto_region 36 with (fail)
                                   have HP3 := Aside0.mk (HP.out.setA hin (lf - 1))
                                   clear hL1 hL2 HP z0 xb
                                   generalize wr.setCell ⟨bl, i, none⟩ (.int .i64 (lf - 1)) = w4 at HP3 ⊢
                                   have hL1 := (HP3.out.ra.rd hin).1
                                   rw [upd_same] at hL1
                                   go_wp2
                                   go_meet
                                   case rel => exact ⟨by rw [HZE.out]; exact HP3.out⟩
                               · as_aux_lemma =>
                                 have hld : decide (lf > 0) = false := decide_eq_false hl
                                 have HG5 := Aside0.mk (show z = if true = true then giveM (t : Int) ((t266.map Int.toNat).drop (p + 1)) y else y from by
                                   rw [if_pos rfl, HG4.out, giveM_skip (by rw [HLF.out]; exact hl)])
                                 go_wp2
                                 go_roundg (t266.length - (p + 1))
                                 case measure => omega
                                 case rel => exact ⟨p + 1, by omega, by first | rfl | go_num | (congr 1; unfold wrap64; omega) | (congr 1; omega), by omega, HP, HG5⟩
                           · have hpz : ¬ (p : Int) < (t266.length : Int) := by omega
                             have hpd : decide ((p : Int) < (t266.length : Int)) = false := decide_eq_false hpz
                             have HZE := Aside0.mk (show z = y from by
                               rw [HG3.out, List.drop_of_length_le (by rw [List.length_map]; omega)]
                               split <;> rfl)
                             go_wp2
                             go_meet
                             case rel => exact ⟨by rw [HZE.out]; exact HP.out⟩
                       case rest =>
                         as_aux_lemma =>
                         clear HP HZY
                         have HP := hcut
                         clear hcut
                         go_wp2
                         go_loopg [22] l0.length (fun g4 v22 wr4 => ∃ kk : Nat, kk ≤ l0.length ∧ v22 = .int .i64 (kk : Int) ∧ l0.length - kk ≤ g4 ∧ Aside0 (S3 l0.length bl bc bm b0 W0 z.lf z.cm z.mo wr4))
                         case atStart => exact ⟨0, by omega, rfl, by omega, HP⟩
                         case round =>
                           clear HP
                           obtain ⟨kk, hkk, rfl, hg4, HP⟩ := hrel
                           by_cases hlt : kk < l0.length
                           · have hltz : (kk : Int) < (l0.length : Int) := by omega
                             have hltz8 : (kk : Int) < (t251.length : Int) := by have := HST.out.2.2; omega
                             have hltd : decide ((kk : Int) < (l0.length : Int)) = true := decide_eq_true hltz
                             have hk0 : 0 ≤ (kk : Int) := by omega
                             have hE := okEnd_at HEND.out hlt
                             obtain ⟨ad, e1, x0, x1, x2, x3⟩ := at_T43 (Kd.C_below HR0.out (HBP.out HP.out)) (kk : Int) hk0 hltz
                             cases e1
                             generalize rd_T43 l0 (kk : Int) = p at x0 x1 x2 x3 hE
                             simp only [Int.toNat_natCast] at x0 x1 x2 x3
                             obtain ⟨ad3, e1, z0⟩ := Kd.at_int (Kd.C_below HK8.out (HBO.out HP.out)) (kk : Int) hk0 hltz8
                             cases e1
                             generalize rd t251 (kk : Int) = s at z0 hE
                             simp only [Int.toNat_natCast] at z0
                             obtain ⟨hL1, hL2⟩ := HP.out.ra.rd hlt
                             obtain ⟨hC1, hC2⟩ := HP.out.rb.rd hlt
                             have HCB := Aside0.mk (HIZ.out.cm kk hlt)
                             generalize z.lf kk = lf at hL1 hE
                             generalize z.cm kk = ci at hC1 hE HCB
                             have hDd : decide (s > p.f2) = false := decide_eq_false hE.2
                             by_cases hl : 0 < lf
                             · as_aux_lemma =>
                               have hld : decide (lf > 0) = true := decide_eq_true hl
                               have ht1 : IntKind.i64.wrap ((t : Int) + 1) = (t : Int) + 1 := by rw [IntKind.wrap_i64]; omega
                               have hta : IntKind.i64.wrap ((t : Int) + 1 - ci) = (t : Int) + 1 - ci := by have := HCB.out; rw [IntKind.wrap_i64]; omega
                               have hsz : ¬ s ≤ (t : Int) + 1 - ci := fun hh => hE.1 ⟨hl, hh⟩
                               have hsd : decide ((t : Int) + 1 - ci ≥ s) = false := decide_eq_false hsz
                               clear hE
                               go_wp2_with fail
                               go_big_region_o
                               have HP2 := Aside0.mk HP.out.drew
                               clear HP x0 x1 x2 x3 z0 hL1 hL2 hC1 hC2
                               generalize wr.drew = w3 at HP2 ⊢
                               go_wp2
                               go_roundg (l0.length - (kk + 1))
                               case measure => omega
                               case rel => exact ⟨kk + 1, by omega, by first | rfl | go_num | (congr 1; unfold wrap64; omega) | (congr 1; omega), by omega, HP2⟩
                             · as_aux_lemma =>
                               have hld : decide (lf > 0) = false := decide_eq_false hl
                               clear hE
                               go_wp2_with fail
                               go_big_region_o
                               have HP2 := Aside0.mk HP.out.drew
                               clear HP x0 x1 x2 x3 z0 hL1 hL2 hC1 hC2
                               generalize wr.drew = w3 at HP2 ⊢
                               go_wp2
                               go_roundg (l0.length - (kk + 1))
                               case measure => omega
                               case rel => exact ⟨kk + 1, by omega, by first | rfl | go_num | (congr 1; unfold wrap64; omega) | (congr 1; omega), by omega, HP2⟩
                           · obtain rfl : kk = l0.length := by omega
                             have hltd : decide ((l0.length : Int) < (l0.length : Int)) = false := decide_eq_false (by omega)
                             go_wp2
                             go_roundg (t256.length - (t + 1))
                             case measure => omega
                             case rel => exact ⟨t + 1, z, by omega, by first | rfl | go_num | (congr 1; unfold wrap64; omega) | (congr 1; omega), by omega, HP, HIZ, HST2, HOK2⟩
                 · as_aux_lemma =>
                   have htz : ¬ (t : Int) < (t256.length : Int) := by omega
                   have htd : decide ((t : Int) < (t256.length : Int)) = false := decide_eq_false htz
                   have hfin : x = runM l0 l1 (t266.map Int.toNat) t256 0 m0 := by
                     rw [← HRUN.out, List.drop_of_length_le (by omega)]; rfl
                   have hML : moL l0 l1 (t266.map Int.toNat) t256 = (List.range l0.length).map x.mo := by unfold moL; rw [← hfin]
                   have HMC := HP.out.rc.row HOK.out.1.1
                   have hh := HH.out
                   rw [hML] at hh
                   have hlen : ((List.range l0.length).map x.mo).length = l0.length := by simp
                   obtain ⟨b, hb, hh⟩ := Option.bind_eq_some_iff.1 hh
                   have HIN := tithelaw22_ints.calls kj41 (some ⟨bm, 0, none⟩) l0.length ((List.range l0.length).map x.mo) A11 c11 t262 b wr (by rw [hlen]; exact HMC) (by rw [hlen]; exact Nat.le_refl _) (Kd.C_below HK11.out (HBO.out HP.out)) HC11.out hb
                   rw [hlen] at HIN
                   have HIN := Aside0.mk HIN
                   have HBE := Aside0.mk (HBP.out HP.out)
                   clear hML hfin hlen hb HMC HP HI HRUN HOKM HH
                   cases b with
                   | true =>
                     rw [if_pos rfl] at hh
                     have HWK := Aside0.mk (fun W => tithelaw22_works.calls kj41 r W hh)
                     clear hh
                     go_wp2_with (first | (go_at_call 37; refine HIN.out.mono ?_; rintro e w1 ⟨rfl, ⟨nd, rfl⟩⟩) | (go_at_call 39; refine (HWK.out _).mono ?_; rintro e w1 ⟨rfl, hb⟩; have HBF := Aside0.mk ((pw_below_drewN HBE.out nd).trans (hb.mono (pw_below_drewN HBE.out nd).size)); clear hb))
                     go_ret
                     exact ⟨rfl, HBF.out⟩
                   | false =>
                     rw [if_neg (by simp)] at hh
                     obtain rfl := Option.some.inj hh
                     clear hh
                     go_wp2_with (first | (go_at_call 37; refine HIN.out.mono ?_; rintro e w1 ⟨rfl, ⟨nd, rfl⟩⟩))
                     go_ret
                     exact ⟨rfl, pw_below_drewN HBE.out nd⟩
            ·rw [if_neg c65] at H
             exact absurd H (by simp)
           ·rw [if_neg c64] at H
            exact absurd H (by simp)
       ·as_aux_lemma =>
        have H1 : ((tithelaw22_works.f k2).bind fun t305 => (some t305)) = some r := by rw [if_neg (show ¬ (some q255).isNone = true by simp)] at H; exact H
        clear H
        have H := H1
        clear H1
        try simp only [errW_none, errW_some]
        replace H := Option.bind_eq_some_iff.mp H
        obtain ⟨t305, A1600, H⟩ := H
        replace H : (some t305) = some r := H
        have A160 := Aside0.mk A1600
        clear A1600
        obtain rfl := Option.some.inj H
        try go_wp2
        have n0_ := Aside0.mk (blk_drew BK238.out)
        have n1_ := Aside0.mk (below_drew1 HB.out)
        clear BK238
        clear HB
        have BK238 := n0_
        have HB := n1_
        clear n0_ n1_
        refine start_ (n := 11) (S := fun w' => True) (ds := []) #[false, false, false, false, false, false, false, false, false, false, false] (by kernel_rfl) rfl rfl trivial (fun hHeld => ?_); refine with_tabW tithelaw22_ResponseSound.tab8 tithelaw22_ResponseSound.bits8 (fun HT_ HW_ => ?_)
        generalize wr.drew = w161 at BK238 HB hHeld ⊢
        refine pure_ (i := 0) (N := some 85) (v := ?_) (a' := ?_) #[true, false, false, false, false, false, false, false, false, false, false] rfl rfl (any_of HT_.out (by kernel_rfl)) (fun _ _ _ h => h) (Or.inl ⟨by rfl, ?_⟩) ?_ ?_
        rotate_left
        ·intro w'
         go_simp
         with_reducible rfl
        rotate_left
        ·simp only [Act.put, List.setIfInBounds_toArray, List.set_cons_zero, List.set_cons_succ, i64_w, i32_w]
         rfl
        refine pure_ (i := 2) (N := some 87) (v := ?_) (a' := ?_) #[true, false, true, false, false, false, false, false, false, false, false] rfl rfl (any_of HT_.out (by kernel_rfl)) (fun _ _ _ h => h) (Or.inl ⟨by rfl, ?_⟩) ?_ ?_
        rotate_left
        ·intro w'
         go_simp
         with_reducible rfl
        rotate_left
        ·simp only [Act.put, List.setIfInBounds_toArray, List.set_cons_zero, List.set_cons_succ, i64_w, i32_w]
         rfl
        refine inv_at [1, 3, 4, 5, 6, 7, 8, 9, 10] (fun a0_ b a w' => ∃ (v246 : Value) (v249 : Value) (v253 : Value) (m5_ : Value) (m6_ : Value) (m7_ : Value) (m9_ : Value), a = putSel a0_ b [(1, 86, v246), (3, 88, .agg #[.int .i64 a2_0, .int .i64 a2_1]), (4, 89, v249), (5, 90, m5_), (6, 84, m6_), (7, 91, m7_), (8, 92, errW (some q255)), (9, 8, m9_), (10, 9, errW (some q255))] ∧ (w'.heap[gb238]? = some (.cells #[.int .i64 a2_0, .int .i64 a2_1, .slice A2_2 l2_2.length c2_2, .int .i64 a2_3] 66 (0, 0))) ∧ (Below w.heap.size w w') ∧ (b 1 = true → Kd.R k43 43 w' w.heap.size (fun _ => True) v246 t245) ∧ (b 4 = true → Kd.R k64 64 w' w.heap.size (fun _ => True) v249 y248) ∧ (b 5 = true → Kd.R (Kd.int .i64) 3 w' w.heap.size (fun _ => True) v253 t251) ∧ (b 5 = true → (m5_ : Value) = .tuple #[v253, errW (some q255)]) ∧ (b 6 = true → (m6_ : Value) = .tuple #[v253, errW (some q255)]) ∧ (b 7 = true → (m7_ : Value) = v253) ∧ (b 9 = true → (m9_ : Value) = v253)) HT_.out HW_.out (by kernel_rfl) (by kernel_rfl) ?_ ?_ ?_
        ·exact ⟨.bool false, .bool false, .bool false, .bool false, .bool false, .bool false, .bool false, by simp only [putSel, Bool.false_eq_true, if_false], BK238.out, HB.out, fun h_ => absurd h_ (by decide), fun h_ => absurd h_ (by decide), fun h_ => absurd h_ (by decide), fun h_ => absurd h_ (by decide), fun h_ => absurd h_ (by decide), fun h_ => absurd h_ (by decide), fun h_ => absurd h_ (by decide)⟩
        ·skip
         clear BK238 HB
         refine steps_cons ?_ ?_
         ·rintro b a w' ⟨v246, v249, v253, m5_, m6_, m7_, m9_, ha, Q_BK238, Q_HB, Q_HO247, Q_HO250, Q_HO254, Q_X5_, Q_X6_, Q_X7_, Q_X9_⟩ hb_ hon hoff
          refine ⟨_, rfl, fun K hK => ?_⟩
          have e85 : a.tmps[85]? = some (.slice A0 l0.length c0) := by rw [ha]; exact (putSel_off rfl).trans rfl
          replace ha := Aside0.mk ha
          have BK238 := Aside0.mk Q_BK238
          have HB := Aside0.mk Q_HB
          refine goes_ Try.func31 (by kernel_rfl) rfl #[.slice A0 l0.length c0] (by rfl) rfl rfl (by first | (simp only [List.map_toArray, List.map_cons, List.map_nil, Act.eval, Array.getD_eq_getD_getElem?, Option.getD_some, e85]; done) | (simp only [List.map_toArray, List.map_cons, List.map_nil, Act.eval, Array.getD_eq_getD_getElem?, Option.getD_some, e85]; rfl)) ?_
          with_reducible refine (tithelaw22_twin.calls _ _ l0 t245 _ ?side1 ?side2 A36.out).mono ?_
          (case side1 => repeat (first | exact (Kd.C_below HR0.out HB.out) | (with_reducible refine Kd.C_alloc ?_ _) | (with_reducible refine Kd.C_drewN ?_ _) | (with_reducible refine Kd.C_drew ?_)))
          (case side2 => exact HC0.out)
          rintro e w162 ⟨v246, rfl, ho0, hb⟩
          refine ⟨_, rfl, ?_⟩
          have n0_ := Aside0.mk (Kd.R_lower ho0 (below_size (by repeat (first | (with_reducible first | exact HB.out | apply below_alloc | apply pw_below_drewN | apply below_drew1 | refine below_set ?_ GE238.out) | exact HB.out))))
          have n1_ := Aside0.mk (blk_below (g := gb238) (o := .cells #[.int .i64 a2_0, .int .i64 a2_1, .slice A2_2 l2_2.length c2_2, .int .i64 a2_3] 66 (0, 0)) (by (with_reducible repeat (first | refine blk_drewN ?_ _ | refine blk_drew ?_ | refine blk_alloc ?_ _)); exact BK238.out) hb)
          have n2_ := Aside0.mk (below_step (by repeat (first | (with_reducible first | exact HB.out | apply below_alloc | apply pw_below_drewN | apply below_drew1 | refine below_set ?_ GE238.out) | exact HB.out)) hb)
          have z_HO250 := fun (h0_ : b 4 = true) => (show Kd.R k64 64 w162 w.heap.size (fun _ => True) v249 y248 from by first | exact (Kd.R_below (by (with_reducible repeat (first | apply Kd.R_alloc | apply Kd.R_drewN | apply Kd.R_drew)); exact (Q_HO250 h0_)) hb) | exact Kd.R_mono (Kd.R_below (by (with_reducible repeat (first | apply Kd.R_alloc | apply Kd.R_drewN | apply Kd.R_drew)); exact (Q_HO250 h0_)) hb) (fun _ h_ => by first | trivial | exact h_ | exact h_.1))
          clear BK238
          clear HB
          have HO247 := n0_
          have BK238 := n1_
          have HB := n2_
          clear n0_ n1_ n2_
          (try clear hb)
          (try clear hb2)
          (try clear hk)
          (try clear hi)
          (try clear ho0)
          refine hK.out _ _ ⟨v246, v249, v253, m5_, m6_, m7_, m9_, (by rw [ha.out]; exact putSel_upk 0 hb_ rfl rfl rfl), (by (with_reducible repeat (first | refine blk_drewN ?_ _ | refine blk_drew ?_ | refine blk_alloc ?_ _)); exact BK238.out), (by repeat (first | (with_reducible first | exact HB.out | apply below_alloc | apply pw_below_drewN | apply below_drew1 | refine below_set ?_ GE238.out) | exact HB.out)), fun _ => (by (with_reducible repeat (first | apply Kd.R_alloc | apply Kd.R_drewN | apply Kd.R_drew)); exact HO247.out), z_HO250, fun h0_ => absurd ((hoff 5 (by kernel_rfl)).symm.trans h0_) (by decide), fun h0_ => absurd ((hoff 5 (by kernel_rfl)).symm.trans h0_) (by decide), fun h0_ => absurd ((hoff 6 (by kernel_rfl)).symm.trans h0_) (by decide), fun h0_ => absurd ((hoff 7 (by kernel_rfl)).symm.trans h0_) (by decide), fun h0_ => absurd ((hoff 9 (by kernel_rfl)).symm.trans h0_) (by decide)⟩
         refine steps_cons ?_ ?_
         ·rintro b a w' ⟨v246, v249, v253, m5_, m6_, m7_, m9_, ha, Q_BK238, Q_HB, Q_HO247, Q_HO250, Q_HO254, Q_X5_, Q_X6_, Q_X7_, Q_X9_⟩ hb_ hon hoff
          refine ⟨_, rfl, fun K hK => ?_⟩
          have e87 : a.tmps[87]? = some (.pointer (some ⟨gb238, 0, none⟩)) := by rw [ha]; exact (putSel_off rfl).trans rfl
          replace ha := Aside0.mk ha
          have BK238 := Aside0.mk Q_BK238
          have HB := Aside0.mk Q_HB
          have hc0_ : w'.cell? ⟨gb238, 0, none⟩ = some (.int .i64 a2_0) := (blk_cell BK238.out 0).trans (by rfl)
          have hc1_ : w'.cell? ⟨gb238, 1, none⟩ = some (.int .i64 a2_1) := (blk_cell BK238.out 1).trans (by rfl)
          have hc2_ : w'.cell? ⟨gb238, 2, none⟩ = some (.slice A2_2 l2_2.length c2_2) := (blk_cell BK238.out 2).trans (by rfl)
          have hc3_ : w'.cell? ⟨gb238, 3, none⟩ = some (.int .i64 a2_3) := (blk_cell BK238.out 3).trans (by rfl)
          refine value_ (w1 := w') (v := .agg #[.int .i64 a2_0, .int .i64 a2_1]) (by rfl) rfl ?_ ?_
          ·go_simp
           (try simp only [i64_w])
           try rfl
          refine hK.out _ _ ⟨v246, v249, v253, m5_, m6_, m7_, m9_, (by rw [ha.out]; exact putSel_upk 1 hb_ rfl rfl rfl), Q_BK238, Q_HB, Q_HO247, fun h0_ => absurd ((hoff 4 (by kernel_rfl)).symm.trans h0_) (by decide), fun h0_ => absurd ((hoff 5 (by kernel_rfl)).symm.trans h0_) (by decide), fun h0_ => absurd ((hoff 5 (by kernel_rfl)).symm.trans h0_) (by decide), fun h0_ => absurd ((hoff 6 (by kernel_rfl)).symm.trans h0_) (by decide), fun h0_ => absurd ((hoff 7 (by kernel_rfl)).symm.trans h0_) (by decide), fun h0_ => absurd ((hoff 9 (by kernel_rfl)).symm.trans h0_) (by decide)⟩
         refine steps_cons ?_ ?_
         ·rintro b a w' ⟨v246, v249, v253, m5_, m6_, m7_, m9_, ha, Q_BK238, Q_HB, Q_HO247, Q_HO250, Q_HO254, Q_X5_, Q_X6_, Q_X7_, Q_X9_⟩ hb_ hon hoff
          refine ⟨_, rfl, fun K hK => ?_⟩
          have e88 : a.tmps[88]? = some (.agg #[.int .i64 a2_0, .int .i64 a2_1]) := by rw [ha]; exact putSel_on (e := (3, 88, .agg #[.int .i64 a2_0, .int .i64 a2_1])) 1 rfl rfl (hon 3 (by kernel_rfl)) rfl
          replace ha := Aside0.mk ha
          have BK238 := Aside0.mk Q_BK238
          have HB := Aside0.mk Q_HB
          refine Kd.R_lit_step k64 _ 64 ?hg (N := 89) ?hd (xs := ([(⟨a2_0, a2_1⟩ : S64)] : List (S64))) (inner := [.int .i64 a2_0, .int .i64 a2_1]) (ok := fun _ => True) (okp := fun _ => True) ?hr ?hp (fun _ hk => hk) trivial (Below.refl _ _) (Nat.le_refl _) (by simp) ?_; (case hd => rfl); (case hg => rfl); (case hr => first | (go_simp; done) | (go_simp; rfl)); (case hp => exact (Reps.c2 (show Kd.M k64 _ _ _ (⟨a2_0, a2_1⟩ : S64) [.int .i64 a2_0, .int .i64 a2_1] from (k64_mkM _ _ _ (⟨a2_0, a2_1⟩ : S64) )) (Reps.none _ _)))
          intro v249 w162 ho163 hb hg_ hnew_
          clear hg_ hnew_
          (first | rw [← Ny248.out] at ho163 | (simp only [Int.reduceToNat] at ho163; rw [← Ny248.out] at ho163))
          have n0_ := Aside0.mk (Kd.R_lower ho163 (below_size (by repeat (first | (with_reducible first | exact HB.out | apply below_alloc | apply pw_below_drewN | apply below_drew1 | refine below_set ?_ GE238.out) | exact HB.out))))
          have n1_ := Aside0.mk (blk_below (g := gb238) (o := .cells #[.int .i64 a2_0, .int .i64 a2_1, .slice A2_2 l2_2.length c2_2, .int .i64 a2_3] 66 (0, 0)) (by (with_reducible repeat (first | refine blk_drewN ?_ _ | refine blk_drew ?_ | refine blk_alloc ?_ _)); exact BK238.out) hb)
          have n2_ := Aside0.mk (below_step (by repeat (first | (with_reducible first | exact HB.out | apply below_alloc | apply pw_below_drewN | apply below_drew1 | refine below_set ?_ GE238.out) | exact HB.out)) hb)
          have z_HO247 := fun (h0_ : b 1 = true) => (show Kd.R k43 43 w162 w.heap.size (fun _ => True) v246 t245 from by first | exact (Kd.R_below (by (with_reducible repeat (first | apply Kd.R_alloc | apply Kd.R_drewN | apply Kd.R_drew)); exact (Q_HO247 h0_)) hb) | exact Kd.R_mono (Kd.R_below (by (with_reducible repeat (first | apply Kd.R_alloc | apply Kd.R_drewN | apply Kd.R_drew)); exact (Q_HO247 h0_)) hb) (fun _ h_ => by first | trivial | exact h_ | exact h_.1))
          clear BK238
          clear HB
          have HO250 := n0_
          have BK238 := n1_
          have HB := n2_
          clear n0_ n1_ n2_
          clear hb ho163
          refine hK.out _ _ ⟨v246, v249, v253, m5_, m6_, m7_, m9_, (by rw [ha.out]; exact putSel_upk 2 hb_ rfl rfl rfl), (by (with_reducible repeat (first | refine blk_drewN ?_ _ | refine blk_drew ?_ | refine blk_alloc ?_ _)); exact BK238.out), (by repeat (first | (with_reducible first | exact HB.out | apply below_alloc | apply pw_below_drewN | apply below_drew1 | refine below_set ?_ GE238.out) | exact HB.out)), z_HO247, fun _ => (by (with_reducible repeat (first | apply Kd.R_alloc | apply Kd.R_drewN | apply Kd.R_drew)); exact HO250.out), fun h0_ => absurd ((hoff 5 (by kernel_rfl)).symm.trans h0_) (by decide), fun h0_ => absurd ((hoff 5 (by kernel_rfl)).symm.trans h0_) (by decide), fun h0_ => absurd ((hoff 6 (by kernel_rfl)).symm.trans h0_) (by decide), fun h0_ => absurd ((hoff 7 (by kernel_rfl)).symm.trans h0_) (by decide), fun h0_ => absurd ((hoff 9 (by kernel_rfl)).symm.trans h0_) (by decide)⟩
         refine steps_cons ?_ ?_
         ·rintro b a w' ⟨v246, v249, v253, m5_, m6_, m7_, m9_, ha, Q_BK238, Q_HB, Q_HO247, Q_HO250, Q_HO254, Q_X5_, Q_X6_, Q_X7_, Q_X9_⟩ hb_ hon hoff
          refine ⟨_, rfl, fun K hK => ?_⟩
          have e86 : a.tmps[86]? = some (v246) := by rw [ha]; exact putSel_on (e := (1, 86, v246)) 0 rfl rfl (hon 1 (by kernel_rfl)) rfl
          have e89 : a.tmps[89]? = some (v249) := by rw [ha]; exact putSel_on (e := (4, 89, v249)) 2 rfl rfl (hon 4 (by kernel_rfl)) rfl
          replace ha := Aside0.mk ha
          have BK238 := Aside0.mk Q_BK238
          have HB := Aside0.mk Q_HB
          have HO247 := Aside0.mk (Q_HO247 (hon 1 (by kernel_rfl)))
          have HO250 := Aside0.mk (Q_HO250 (hon 4 (by kernel_rfl)))
          obtain ⟨Ao166, co166, eo166⟩ := Kd.R_slice HO247.out
          (first | subst eo166 | (injection eo166 with f1_ f2_ f3_; have f4_ := f1_.symm; have f5_ := f3_.symm; clear f1_ f2_ f3_; subst f4_; subst f5_))
          obtain ⟨Ao167, co167, eo167⟩ := Kd.R_slice HO250.out
          (first | subst eo167 | (injection eo167 with f1_ f2_ f3_; have f4_ := f1_.symm; have f5_ := f3_.symm; clear f1_ f2_ f3_; subst f4_; subst f5_))
          refine goes_ Try.func34 (by kernel_rfl) rfl #[.slice Ao166 t245.length co166, .slice Ao167 y248.length co167] (by rfl) rfl rfl (by first | (simp only [List.map_toArray, List.map_cons, List.map_nil, Act.eval, Array.getD_eq_getD_getElem?, Option.getD_some, e86, e89]; done) | (simp only [List.map_toArray, List.map_cons, List.map_nil, Act.eval, Array.getD_eq_getD_getElem?, Option.getD_some, e86, e89]; rfl)) ?_
          with_reducible refine (response_All.calls k2 _ _ t245 _ _ y248 t251 (some q255) _ ?side1 ?side2 ?side3 ?side4 A37.out).mono ?_
          (case side1 => repeat (first | exact (Kd.R_reads' HO247.out).2.2 | (with_reducible refine Kd.C_alloc ?_ _) | (with_reducible refine Kd.C_drewN ?_ _) | (with_reducible refine Kd.C_drew ?_)))
          (case side2 => exact (Kd.R_reads' HO247.out).2.1)
          (case side3 => repeat (first | exact (Kd.R_reads' HO250.out).2.2 | (with_reducible refine Kd.C_alloc ?_ _) | (with_reducible refine Kd.C_drewN ?_ _) | (with_reducible refine Kd.C_drew ?_)))
          (case side4 => exact (Kd.R_reads' HO250.out).2.1)
          rintro e w168 ⟨v253, rfl, ho0, hb⟩
          refine ⟨_, rfl, ?_⟩
          have n0_ := Aside0.mk (Kd.R_below (by (with_reducible repeat (first | apply Kd.R_alloc | apply Kd.R_drewN | apply Kd.R_drew)); exact HO247.out) hb)
          have n1_ := Aside0.mk (Kd.R_below (by (with_reducible repeat (first | apply Kd.R_alloc | apply Kd.R_drewN | apply Kd.R_drew)); exact HO250.out) hb)
          have n2_ := Aside0.mk (Kd.R_lower ho0 (below_size (by repeat (first | (with_reducible first | exact HB.out | apply below_alloc | apply pw_below_drewN | apply below_drew1 | refine below_set ?_ GE238.out) | exact HB.out))))
          have n3_ := Aside0.mk (blk_below (g := gb238) (o := .cells #[.int .i64 a2_0, .int .i64 a2_1, .slice A2_2 l2_2.length c2_2, .int .i64 a2_3] 66 (0, 0)) (by (with_reducible repeat (first | refine blk_drewN ?_ _ | refine blk_drew ?_ | refine blk_alloc ?_ _)); exact BK238.out) hb)
          have n4_ := Aside0.mk (below_step (by repeat (first | (with_reducible first | exact HB.out | apply below_alloc | apply pw_below_drewN | apply below_drew1 | refine below_set ?_ GE238.out) | exact HB.out)) hb)
          clear HO247
          clear HO250
          clear BK238
          clear HB
          have HO247 := n0_
          have HO250 := n1_
          have HO254 := n2_
          have BK238 := n3_
          have HB := n4_
          clear n0_ n1_ n2_ n3_ n4_
          (try clear hb)
          (try clear hb2)
          (try clear hk)
          (try clear hi)
          (try clear ho0)
          (try simp only [errW_none, errW_some])
          refine hK.out _ _ ⟨.slice Ao166 t245.length co166, .slice Ao167 y248.length co167, v253, (.tuple #[v253, errW (some q255)]), m6_, m7_, m9_, (by rw [ha.out]; exact putSel_upk 3 hb_ rfl rfl rfl), (by (with_reducible repeat (first | refine blk_drewN ?_ _ | refine blk_drew ?_ | refine blk_alloc ?_ _)); exact BK238.out), (by repeat (first | (with_reducible first | exact HB.out | apply below_alloc | apply pw_below_drewN | apply below_drew1 | refine below_set ?_ GE238.out) | exact HB.out)), fun _ => (by (with_reducible repeat (first | apply Kd.R_alloc | apply Kd.R_drewN | apply Kd.R_drew)); exact HO247.out), fun _ => (by (with_reducible repeat (first | apply Kd.R_alloc | apply Kd.R_drewN | apply Kd.R_drew)); exact HO250.out), fun _ => (by (with_reducible repeat (first | apply Kd.R_alloc | apply Kd.R_drewN | apply Kd.R_drew)); exact HO254.out), fun _ => rfl, fun h0_ => absurd ((hoff 6 (by kernel_rfl)).symm.trans h0_) (by decide), fun h0_ => absurd ((hoff 7 (by kernel_rfl)).symm.trans h0_) (by decide), fun h0_ => absurd ((hoff 9 (by kernel_rfl)).symm.trans h0_) (by decide)⟩
         refine steps_cons ?_ ?_
         ·rintro b a w' ⟨v246, v249, v253, m5_, m6_, m7_, m9_, ha, Q_BK238, Q_HB, Q_HO247, Q_HO250, Q_HO254, Q_X5_, Q_X6_, Q_X7_, Q_X9_⟩ hb_ hon hoff
          refine ⟨_, rfl, fun K hK => ?_⟩
          have e90 : a.tmps[90]? = some (m5_) := by rw [ha]; exact putSel_on (e := (5, 90, m5_)) 3 rfl rfl (hon 5 (by kernel_rfl)) rfl
          rw [Q_X5_ (hon 5 (by kernel_rfl))] at e90
          replace ha := Aside0.mk ha
          have BK238 := Aside0.mk Q_BK238
          have HB := Aside0.mk Q_HB
          have HO247 := Aside0.mk (Q_HO247 (hon 1 (by kernel_rfl)))
          have HO250 := Aside0.mk (Q_HO250 (hon 4 (by kernel_rfl)))
          have HO254 := Aside0.mk (Q_HO254 (hon 5 (by kernel_rfl)))
          refine value_ (w1 := w') (v := .tuple #[v253, errW (some q255)]) (by rfl) rfl ?_ ?_
          ·go_simp
           (try simp only [i64_w])
           try rfl
          refine hK.out _ _ ⟨v246, v249, v253, m5_, (.tuple #[v253, errW (some q255)]), m7_, m9_, (by rw [ha.out]; exact putSel_upk 4 hb_ rfl rfl rfl), Q_BK238, Q_HB, Q_HO247, Q_HO250, Q_HO254, Q_X5_, fun _ => rfl, fun h0_ => absurd ((hoff 7 (by kernel_rfl)).symm.trans h0_) (by decide), fun h0_ => absurd ((hoff 9 (by kernel_rfl)).symm.trans h0_) (by decide)⟩
         refine steps_cons ?_ ?_
         ·rintro b a w' ⟨v246, v249, v253, m5_, m6_, m7_, m9_, ha, Q_BK238, Q_HB, Q_HO247, Q_HO250, Q_HO254, Q_X5_, Q_X6_, Q_X7_, Q_X9_⟩ hb_ hon hoff
          refine ⟨_, rfl, fun K hK => ?_⟩
          have e84 : a.tmps[84]? = some (m6_) := by rw [ha]; exact putSel_on (e := (6, 84, m6_)) 4 rfl rfl (hon 6 (by kernel_rfl)) rfl
          rw [Q_X6_ (hon 6 (by kernel_rfl))] at e84
          replace ha := Aside0.mk ha
          have BK238 := Aside0.mk Q_BK238
          have HB := Aside0.mk Q_HB
          have HO247 := Aside0.mk (Q_HO247 (hon 1 (by kernel_rfl)))
          have HO250 := Aside0.mk (Q_HO250 (hon 4 (by kernel_rfl)))
          have HO254 := Aside0.mk (Q_HO254 (hon 5 (by kernel_rfl)))
          obtain ⟨Ao7_0, co7_0, eo_⟩ := Kd.R_slice HO254.out
          subst eo_
          refine value_ (w1 := w') (v := .slice Ao7_0 t251.length co7_0) (by rfl) rfl ?_ ?_
          ·go_simp
           (try simp only [i64_w])
           try rfl
          refine hK.out _ _ ⟨v246, v249, .slice Ao7_0 t251.length co7_0, m5_, m6_, (.slice Ao7_0 t251.length co7_0), m9_, (by rw [ha.out]; exact putSel_upk 5 hb_ rfl rfl rfl), Q_BK238, Q_HB, Q_HO247, Q_HO250, Q_HO254, Q_X5_, Q_X6_, fun _ => rfl, fun h0_ => absurd ((hoff 9 (by kernel_rfl)).symm.trans h0_) (by decide)⟩
         refine steps_cons ?_ ?_
         ·rintro b a w' ⟨v246, v249, v253, m5_, m6_, m7_, m9_, ha, Q_BK238, Q_HB, Q_HO247, Q_HO250, Q_HO254, Q_X5_, Q_X6_, Q_X7_, Q_X9_⟩ hb_ hon hoff
          refine ⟨_, rfl, fun K hK => ?_⟩
          have e84 : a.tmps[84]? = some (m6_) := by rw [ha]; exact putSel_on (e := (6, 84, m6_)) 4 rfl rfl (hon 6 (by kernel_rfl)) rfl
          rw [Q_X6_ (hon 6 (by kernel_rfl))] at e84
          replace ha := Aside0.mk ha
          have BK238 := Aside0.mk Q_BK238
          have HB := Aside0.mk Q_HB
          have HO247 := Aside0.mk (Q_HO247 (hon 1 (by kernel_rfl)))
          have HO250 := Aside0.mk (Q_HO250 (hon 4 (by kernel_rfl)))
          have HO254 := Aside0.mk (Q_HO254 (hon 5 (by kernel_rfl)))
          obtain ⟨Ao8_0, co8_0, eo_⟩ := Kd.R_slice HO254.out
          subst eo_
          refine value_ (w1 := w') (v := errW (some q255)) (by rfl) rfl ?_ ?_
          ·go_simp
           (try simp only [i64_w])
           try rfl
          refine hK.out _ _ ⟨v246, v249, .slice Ao8_0 t251.length co8_0, m5_, m6_, m7_, m9_, (by rw [ha.out]; exact putSel_upk 6 hb_ rfl rfl rfl), Q_BK238, Q_HB, Q_HO247, Q_HO250, Q_HO254, Q_X5_, Q_X6_, Q_X7_, Q_X9_⟩
         refine steps_cons ?_ ?_
         ·rintro b a w' ⟨v246, v249, v253, m5_, m6_, m7_, m9_, ha, Q_BK238, Q_HB, Q_HO247, Q_HO250, Q_HO254, Q_X5_, Q_X6_, Q_X7_, Q_X9_⟩ hb_ hon hoff
          refine ⟨_, rfl, fun K hK => ?_⟩
          have e91 : a.tmps[91]? = some (m7_) := by rw [ha]; exact putSel_on (e := (7, 91, m7_)) 5 rfl rfl (hon 7 (by kernel_rfl)) rfl
          rw [Q_X7_ (hon 7 (by kernel_rfl))] at e91
          replace ha := Aside0.mk ha
          have BK238 := Aside0.mk Q_BK238
          have HB := Aside0.mk Q_HB
          have HO247 := Aside0.mk (Q_HO247 (hon 1 (by kernel_rfl)))
          have HO250 := Aside0.mk (Q_HO250 (hon 4 (by kernel_rfl)))
          have HO254 := Aside0.mk (Q_HO254 (hon 5 (by kernel_rfl)))
          refine value_ (w1 := w') (v := v253) (by rfl) rfl ?_ ?_
          ·go_simp
           (try simp only [i64_w])
           try rfl
          refine hK.out _ _ ⟨v246, v249, v253, m5_, m6_, m7_, (v253), (by rw [ha.out]; exact putSel_upk 7 hb_ rfl rfl rfl), Q_BK238, Q_HB, Q_HO247, Q_HO250, Q_HO254, Q_X5_, Q_X6_, Q_X7_, fun _ => rfl⟩
         refine steps_cons ?_ ?_
         ·rintro b a w' ⟨v246, v249, v253, m5_, m6_, m7_, m9_, ha, Q_BK238, Q_HB, Q_HO247, Q_HO250, Q_HO254, Q_X5_, Q_X6_, Q_X7_, Q_X9_⟩ hb_ hon hoff
          refine ⟨_, rfl, fun K hK => ?_⟩
          have e92 : a.tmps[92]? = some (errW (some q255)) := by rw [ha]; exact putSel_on (e := (8, 92, errW (some q255))) 6 rfl rfl (hon 8 (by kernel_rfl)) rfl
          replace ha := Aside0.mk ha
          have BK238 := Aside0.mk Q_BK238
          have HB := Aside0.mk Q_HB
          have HO247 := Aside0.mk (Q_HO247 (hon 1 (by kernel_rfl)))
          have HO250 := Aside0.mk (Q_HO250 (hon 4 (by kernel_rfl)))
          have HO254 := Aside0.mk (Q_HO254 (hon 5 (by kernel_rfl)))
          refine value_ (w1 := w') (v := errW (some q255)) (by rfl) rfl ?_ ?_
          ·go_simp
           (try simp only [i64_w])
           try rfl
          refine hK.out _ _ ⟨v246, v249, v253, m5_, m6_, m7_, m9_, (by rw [ha.out]; exact putSel_upk 8 hb_ rfl rfl rfl), Q_BK238, Q_HB, Q_HO247, Q_HO250, Q_HO254, Q_X5_, Q_X6_, Q_X7_, Q_X9_⟩
         exact steps_nil
        rintro b a w168 hall ⟨v246, v249, v253, m5_, m6_, m7_, m9_, ha, Q_BK238, Q_HB, Q_HO247, Q_HO250, Q_HO254, Q_X5_, Q_X6_, Q_X7_, Q_X9_⟩
        clear BK238 HB
        have hb1_ := hall 1 (by kernel_rfl)
        have hb3_ := hall 3 (by kernel_rfl)
        have hb4_ := hall 4 (by kernel_rfl)
        have hb5_ := hall 5 (by kernel_rfl)
        have hb6_ := hall 6 (by kernel_rfl)
        have hb7_ := hall 7 (by kernel_rfl)
        have hb8_ := hall 8 (by kernel_rfl)
        have hb9_ := hall 9 (by kernel_rfl)
        have hb10_ := hall 10 (by kernel_rfl)
        subst ha
        obtain rfl := Q_X5_ hb5_
        obtain rfl := Q_X6_ hb6_
        have hq7_ := Q_X7_ hb7_; subst m7_
        have hq9_ := Q_X9_ hb9_; subst m9_
        simp only [putSel, hb1_, hb3_, hb4_, hb5_, hb6_, hb7_, hb8_, hb9_, hb10_, if_true, Act.put, List.setIfInBounds_toArray, List.set_cons_zero, List.set_cons_succ]
        have BK238 := Aside0.mk Q_BK238
        clear Q_BK238
        have HB := Aside0.mk Q_HB
        clear Q_HB
        have HO247 := Aside0.mk (Q_HO247 hb1_)
        clear Q_HO247
        have HO250 := Aside0.mk (Q_HO250 hb4_)
        clear Q_HO250
        have HO254 := Aside0.mk (Q_HO254 hb5_)
        clear Q_HO254
        clear hall hb1_ hb3_ hb4_ hb5_ hb6_ hb7_ hb8_ hb9_ hb10_
        try go_wp2_with (first | ((with_reducible refine gate_callee (f := 39) rfl ?_); refine goesL_ (some 95) rfl rfl Try.func39 (by kernel_rfl) rfl #[] rfl (by (try simp only [List.map_toArray, List.map_cons, List.map_nil]); first | done | rfl | (simp only [List.length_drop, List.length_take]; rfl)) ?_; (with_reducible refine (tithelaw22_works.calls k2  t305 _ A160.out).mono ?_); rintro e w169 ⟨rfl, hb⟩; refine ⟨_, rfl, ?_⟩; have n0_ := Aside0.mk (Kd.R_below (by (with_reducible repeat (first | apply Kd.R_alloc | apply Kd.R_drewN | apply Kd.R_drew)); exact HO247.out) hb); have n1_ := Aside0.mk (Kd.R_below (by (with_reducible repeat (first | apply Kd.R_alloc | apply Kd.R_drewN | apply Kd.R_drew)); exact HO250.out) hb); have n2_ := Aside0.mk (Kd.R_below (by (with_reducible repeat (first | apply Kd.R_alloc | apply Kd.R_drewN | apply Kd.R_drew)); exact HO254.out) hb); have n3_ := Aside0.mk (blk_below (g := gb238) (o := .cells #[.int .i64 a2_0, .int .i64 a2_1, .slice A2_2 l2_2.length c2_2, .int .i64 a2_3] 66 (0, 0)) (by (with_reducible repeat (first | refine blk_drewN ?_ _ | refine blk_drew ?_ | refine blk_alloc ?_ _)); exact BK238.out) hb); have n4_ := Aside0.mk (below_step (by repeat (first | (with_reducible first | exact HB.out | apply below_alloc | apply pw_below_drewN | apply below_drew1 | refine below_set ?_ GE238.out) | exact HB.out)) hb); clear HO247; clear HO250; clear HO254; clear BK238; clear HB; have HO247 := n0_; have HO250 := n1_; have HO254 := n2_; have BK238 := n3_; have HB := n4_; clear n0_ n1_ n2_ n3_ n4_; (try clear hb); (try clear hb2); (try clear hk); (try clear hi)))
        go_ret
        exact ⟨by first | rfl | (simp [errW_none, errW_some] <;> rfl) | (simp [*, errW_none, errW_some] <;> rfl), by repeat (first | (with_reducible first | exact HB.out | apply below_alloc | apply pw_below_drewN | apply below_drew1 | refine below_set ?_ GE238.out) | exact HB.out)⟩

end Go.Proofs.YtdonlmbhamcjdaaRRR.J
