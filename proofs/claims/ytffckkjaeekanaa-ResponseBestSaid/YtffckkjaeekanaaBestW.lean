/- What ResponseBest answers, as a plain function that answers true or nothing. No conditions. -/
import Derived.Test.YtffckkjaeekanaaBx10
import Derived.Test.YtffckkjaeekanaaBx15
import Derived.Test.YtffckkjaeekanaaBx11
import Derived.Test.YtffckkjaeekanaaBx7
import Derived.Test.YtffckkjaeekanaaDeadW
import Derived.Deep.DeepCutAuto
import Derived.BigQuiet
namespace Go.Proofs.Ytffckkjaeekanaa.B
open Go.RowKit Go.Proofs.YtffckkjaeekanaaW.PrintWords Go.Proofs.YtffckkjaeekanaaW.PrintLast Go.Proofs.YtffckkjaeekanaaW.PrintMore Go.Proofs.Ytffckkjaeekanaa.Aud
set_option linter.unusedVariables false
set_option linter.unusedSimpArgs false
theorem info4 : (Try.prog.info? 4).map (fun i => (i.zero, i.size, i.bytes)) = some (some (.bool false), 1, 1) := by kernel_rfl
/-- what the law asks of the row that was found: each place once, all else as it came -/
def okA (l a : List S39) : Bool := (List.range l.length).all fun i : Nat => decide (0 ≤ (rd_T39 a (i : Int)).f3) && decide ((rd_T39 a (i : Int)).f3 < (l.length : Int)) && decide ((rd_T39 a (i : Int)).f0 = (rd_T39 l (i : Int)).f0) && decide ((rd_T39 a (i : Int)).f1 = (rd_T39 l (i : Int)).f1) && decide ((rd_T39 a (i : Int)).f2 = (rd_T39 l (i : Int)).f2) && (List.range i).all fun j : Nat => decide ((rd_T39 a (j : Int)).f3 ≠ (rd_T39 a (i : Int)).f3)
theorem okA_at {l a : List S39} (h : okA l a = true) {i : Nat} (hi : i < l.length) : (0 ≤ (rd_T39 a (i : Int)).f3 ∧ (rd_T39 a (i : Int)).f3 < (l.length : Int)) ∧ (rd_T39 a (i : Int)).f0 = (rd_T39 l (i : Int)).f0 ∧ (rd_T39 a (i : Int)).f1 = (rd_T39 l (i : Int)).f1 ∧ (rd_T39 a (i : Int)).f2 = (rd_T39 l (i : Int)).f2 ∧ ∀ j : Nat, j < i → (rd_T39 a (j : Int)).f3 ≠ (rd_T39 a (i : Int)).f3 := by
  unfold okA at h
  have := List.all_eq_true.1 h i (List.mem_range.2 hi)
  simp only [Bool.and_eq_true, decide_eq_true_eq, List.all_eq_true, List.mem_range] at this
  exact ⟨⟨this.1.1.1.1.1, this.1.1.1.1.2⟩, this.1.1.1.2, this.1.1.2, this.1.2, this.2⟩
/-- the places that the first i have -/
def us (a : List S39) : Nat → Nat → Bool
  | 0 => fun _ => false
  | i + 1 => setB (us a i) (rd_T39 a (i : Int)).f3.toNat
theorem us_not {a : List S39} {p : Nat} : ∀ {i : Nat}, (∀ j : Nat, j < i → (rd_T39 a (j : Int)).f3.toNat ≠ p) → us a i p = false
  | 0, _ => rfl
  | i + 1, h => by
    show setB (us a i) _ p = false
    unfold setB
    rw [if_neg (fun e => h i (by omega) e.symm)]
    exact us_not (fun j hj => h j (by omega))
/-! ### tithelaw22_ResponseBest: function 3 -/
def tithelaw22_ResponseBest.j0 : Nat → List (S39) → List (S48) → List (S39) → Option Int → Bool → Option (Bool)
 | 0, _, _, _, _, _ => none
 | k + 1, x0, x1, x5, x6, x37 => if x37 = true then (if x6.isNone = true then (none) else (if (x5.length : Int) = 0 then ((tithelaw22_works.f k).bind fun t290 => (some t290)) else (none))) else ((tithelaw22_twin.f x0).bind fun t291 => (if 0 ≤ (x0.length : Int) then (if ((x0.length : Int) : Int).toNat ≤ 281474976710656 then ((tithelaw22_permuted.f k t291 (List.replicate ((x0.length : Int) : Int).toNat false) 0 x1).bind fun bt297 => (if x6.isNone = true then (if (bt297.1 != true) = true then (none) else ((tithelaw22_twin.f x0).bind fun t301 => ((demand_Deadline.f k t301).bind fun bt304 => (if bt297.1 = true then (if (x5.length : Int) = (x0.length : Int) then (if okA x0 x5 = true then ((titheref22_Fits.f k x5 x1).bind fun t315 => (if t315 = 0 then (if bt304.2.isNone = true then ((tithelaw22_row.f x1).bind fun t317 => ((response_Fits.f k bt304.1 t317).bind fun t320 => (if t320.isNone = true then ((tithelaw22_works.f k).bind fun t322 => (some t322)) else (none)))) else (none)) else (none))) else (none)) else (none)) else (if (x5.length : Int) = 0 then (if bt304.2.isNone = true then ((tithelaw22_row.f x1).bind fun t309 => ((response_Fits.f k bt304.1 t309).bind fun t312 => ((tithelaw22_num.f t312).bind fun t313 => (if t313 = 220 then ((tithelaw22_works.f k).bind fun t314 => (some t314)) else (none))))) else (none)) else (none)))))) else (if (bt297.1 != false) = true then (none) else ((tithelaw22_twin.f x0).bind fun t323 => ((demand_Deadline.f k t323).bind fun bt326 => (if bt297.1 = true then (if (x5.length : Int) = (x0.length : Int) then (if okA x0 x5 = true then ((titheref22_Fits.f k x5 x1).bind fun t337 => (if t337 = 0 then (if bt326.2.isNone = true then ((tithelaw22_row.f x1).bind fun t339 => ((response_Fits.f k bt326.1 t339).bind fun t342 => (if t342.isNone = true then ((tithelaw22_works.f k).bind fun t344 => (some t344)) else (none)))) else (none)) else (none))) else (none)) else (none)) else (if (x5.length : Int) = 0 then (if bt326.2.isNone = true then ((tithelaw22_row.f x1).bind fun t331 => ((response_Fits.f k bt326.1 t331).bind fun t334 => ((tithelaw22_num.f t334).bind fun t335 => (if t335 = 220 then ((tithelaw22_works.f k).bind fun t336 => (some t336)) else (none))))) else (none)) else (none)))))))) else (none)) else (none)))
def tithelaw22_ResponseBest.f (k : Nat) (l0 : List (S39)) (l1 : List (S48)) : Option (Bool) := if (l0.length : Int) > 5 then ((tithelaw22_works.f k).bind fun t275 => (some t275)) else ((tithelaw22_twin.f l0).bind fun t276 => ((tithelaw22_row.f l1).bind fun t279 => ((response_Audsley.f k t276 t279).bind fun bt282 => ((titheref20_Valid.f k l0).bind fun t286 => (if t286 = 0 then ((tithelaw22_num.f bt282.2).bind fun t287 => (if t287 = 0 then (tithelaw22_ResponseBest.j0 k l0 l1 bt282.1 bt282.2 false) else ((tithelaw22_num.f bt282.2).bind fun t288 => (tithelaw22_ResponseBest.j0 k l0 l1 bt282.1 bt282.2 (t288 != 220))))) else (tithelaw22_ResponseBest.j0 k l0 l1 bt282.1 bt282.2 true))))))
theorem tithelaw22_ResponseBest.mono_l : ∀ k, (∀ y0 y1 y2 y3 y4, LeO (tithelaw22_ResponseBest.j0 k y0 y1 y2 y3 y4) (tithelaw22_ResponseBest.j0 (k + 1) y0 y1 y2 y3 y4))
 | 0 => fun _ _ _ _ _ r h => by simp [tithelaw22_ResponseBest.j0] at h
 | k + 1 => by
  have ih0 := tithelaw22_ResponseBest.mono_l k
  ·intro y0 y1 y2 y3 y4
   unfold tithelaw22_ResponseBest.j0
   repeat' first
   | (with_reducible exact ih0 _ _ _ _ _)
   | (with_reducible exact demand_Deadline.mono _ _)
   | (with_reducible exact response_Audsley.mono _ _ _)
   | (with_reducible exact response_Fits.mono _ _ _)
   | (with_reducible exact tithelaw22_permuted.mono _ _ _ _ _)
   | (with_reducible exact tithelaw22_works.mono _)
   | (with_reducible exact titheref20_Valid.mono _ _)
   | (with_reducible exact titheref22_Fits.mono _ _ _)
   | (with_reducible exact LeO.refl _)
   | (with_reducible exact LeO.none _)
   | (with_reducible refine LeO.ite ?_ ?_)
   | (with_reducible refine LeO.bind ?_ (fun _ => ?_))
   | exact ih0 _ _ _ _ _
   | exact demand_Deadline.mono _ _
   | exact response_Audsley.mono _ _ _
   | exact response_Fits.mono _ _ _
   | exact tithelaw22_permuted.mono _ _ _ _ _
   | exact tithelaw22_works.mono _
   | exact titheref20_Valid.mono _ _
   | exact titheref22_Fits.mono _ _ _
   | exact LeO.none _
   | refine LeO.ite ?_ ?_
   | refine LeO.bind ?_ (fun _ => ?_)
theorem tithelaw22_ResponseBest.mono : ∀ a0 a1 k, LeO (tithelaw22_ResponseBest.f k a0 a1) (tithelaw22_ResponseBest.f (k + 1) a0 a1) := by
 intro a0 a1 k
 have ih0 := tithelaw22_ResponseBest.mono_l k
 unfold tithelaw22_ResponseBest.f
 repeat' first
   | (with_reducible exact ih0 _ _ _ _ _)
   | (with_reducible exact demand_Deadline.mono _ _)
   | (with_reducible exact response_Audsley.mono _ _ _)
   | (with_reducible exact response_Fits.mono _ _ _)
   | (with_reducible exact tithelaw22_permuted.mono _ _ _ _ _)
   | (with_reducible exact tithelaw22_works.mono _)
   | (with_reducible exact titheref20_Valid.mono _ _)
   | (with_reducible exact titheref22_Fits.mono _ _ _)
   | (with_reducible exact LeO.refl _)
   | (with_reducible exact LeO.none _)
   | (with_reducible refine LeO.ite ?_ ?_)
   | (with_reducible refine LeO.bind ?_ (fun _ => ?_))
   | exact ih0 _ _ _ _ _
   | exact demand_Deadline.mono _ _
   | exact response_Audsley.mono _ _ _
   | exact response_Fits.mono _ _ _
   | exact tithelaw22_permuted.mono _ _ _ _ _
   | exact tithelaw22_works.mono _
   | exact titheref20_Valid.mono _ _
   | exact titheref22_Fits.mono _ _ _
   | exact LeO.none _
   | refine LeO.ite ?_ ?_
   | refine LeO.bind ?_ (fun _ => ?_)
def tithelaw22_ResponseBest.T6 : Bool × List (List Nat × List Nat) := (true, [([], []), ([0], [0]), ([], []), ([2], [2]), ([3, 3], [3]), ([], []), ([1, 4, 5, 1], [1, 4, 5]), ([6, 6, 0, 1, 2, 3, 4, 5, 6], [6])])
def tithelaw22_ResponseBest.B6 : List Nat := [0, 1, 0, 4, 12, 0, 63, 127]
theorem tithelaw22_ResponseBest.tab6 : rtab .any (opsOf Try.f3 6) = tithelaw22_ResponseBest.T6 := by kernel_rfl
theorem tithelaw22_ResponseBest.bits6 : waitsOk tithelaw22_ResponseBest.T6.2 tithelaw22_ResponseBest.B6 = true := by kernel_rfl
set_option maxHeartbeats 8000000 in
set_option maxRecDepth 100000 in
theorem tithelaw22_ResponseBest.calls (k : Nat) (A0 : Option Addr) (c0 : Nat) (l0 : List (S39)) (A1 : Option Addr) (c1 : Nat) (l1 : List (S48)) (r : Bool) (w : World) (hr0 : Kd.C k39 w A0 l0.length l0) (hc0 : l0.length ≤ c0) (hr1 : Kd.C k48 w A1 l1.length l1) (hc1 : l1.length ≤ c1) (h : tithelaw22_ResponseBest.f k l0 l1 = some r) :
  Calls Try.prog 3 #[.slice A0 l0.length c0, .slice A1 l1.length c1] w fun e w' => e = .returned (.bool r) ∧ Below w.heap.size w w' := by
 have hu26 := Try.underlying26
 have hu51 := Try.underlying51
 have HR0 := Aside0.mk hr0
 have HC0 := Aside0.mk hc0
 clear hr0 hc0
 have HR1 := Aside0.mk hr1
 have HC1 := Aside0.mk hc1
 clear hr1 hc1
 have HB := Aside0.mk (Below.refl w.heap.size w)
 have H : (if (l0.length : Int) > 5 then ((tithelaw22_works.f k).bind fun t275 => (some t275)) else ((tithelaw22_twin.f l0).bind fun t276 => ((tithelaw22_row.f l1).bind fun t279 => ((response_Audsley.f k t276 t279).bind fun bt282 => ((titheref20_Valid.f k l0).bind fun t286 => (if t286 = 0 then ((tithelaw22_num.f bt282.2).bind fun t287 => (if t287 = 0 then (tithelaw22_ResponseBest.j0 k l0 l1 bt282.1 bt282.2 false) else ((tithelaw22_num.f bt282.2).bind fun t288 => (tithelaw22_ResponseBest.j0 k l0 l1 bt282.1 bt282.2 (t288 != 220))))) else (tithelaw22_ResponseBest.j0 k l0 l1 bt282.1 bt282.2 true))))))) = some r := h
 clear h
 by_cases c3 : (l0.length : Int) > 5
 ·rw [if_pos c3] at H
  have c3b0 : decide (5 < (l0.length : Int)) = true := decide_eq_true c3
  have c3b1 : decide (5 < l0.length) = true := decide_eq_true (by omega)
  clear c3
  replace H := Option.bind_eq_some_iff.mp H
  obtain ⟨t275, A40, H⟩ := H
  replace H : (some t275) = some r := H
  have A4 := Aside0.mk A40
  clear A40
  obtain rfl := Option.some.inj H
  go_enter Try.func3, Try.ntmps3
  go_wp2_with (first | ((with_reducible refine gate_callee (f := 4) rfl ?_); refine goesL_ (some 16) rfl rfl Try.func4 (by kernel_rfl) rfl #[] rfl (by (try simp only [List.map_toArray, List.map_cons, List.map_nil]); first | done | rfl | (simp only [List.length_drop, List.length_take]; rfl)) ?_; (with_reducible refine (tithelaw22_works.calls k  t275 _ A4.out).mono ?_); rintro e w5 ⟨rfl, hb⟩; refine ⟨_, rfl, ?_⟩; have n0_ := Aside0.mk (below_step (by repeat (first | (with_reducible first | exact HB.out | apply below_alloc | apply pw_below_drewN | apply below_drew1) | exact HB.out)) hb); clear HB; have HB := n0_; clear n0_; (try clear hb); (try clear hb2); (try clear hk); (try clear hi)))
  go_ret
  exact ⟨by first | rfl | (simp [errW_none, errW_some] <;> rfl) | (simp [*, errW_none, errW_some] <;> rfl), by repeat (first | (with_reducible first | exact HB.out | apply below_alloc | apply pw_below_drewN | apply below_drew1) | exact HB.out)⟩
 ·rw [if_neg c3] at H
  have HN5 := Aside0.mk (show l0.length ≤ 5 by omega)
  have c3b0 : decide (5 < (l0.length : Int)) = false := decide_eq_false c3
  have c3b1 : decide (5 < l0.length) = false := decide_eq_false (by omega)
  clear c3
  replace H := Option.bind_eq_some_iff.mp H
  obtain ⟨t276, A60, H⟩ := H
  replace H : ((tithelaw22_row.f l1).bind fun t279 => ((response_Audsley.f k t276 t279).bind fun bt282 => ((titheref20_Valid.f k l0).bind fun t286 => (if t286 = 0 then ((tithelaw22_num.f bt282.2).bind fun t287 => (if t287 = 0 then (tithelaw22_ResponseBest.j0 k l0 l1 bt282.1 bt282.2 false) else ((tithelaw22_num.f bt282.2).bind fun t288 => (tithelaw22_ResponseBest.j0 k l0 l1 bt282.1 bt282.2 (t288 != 220))))) else (tithelaw22_ResponseBest.j0 k l0 l1 bt282.1 bt282.2 true))))) = some r := H
  have A6 := Aside0.mk A60
  clear A60
  replace H := Option.bind_eq_some_iff.mp H
  obtain ⟨t279, A70, H⟩ := H
  replace H : ((response_Audsley.f k t276 t279).bind fun bt282 => ((titheref20_Valid.f k l0).bind fun t286 => (if t286 = 0 then ((tithelaw22_num.f bt282.2).bind fun t287 => (if t287 = 0 then (tithelaw22_ResponseBest.j0 k l0 l1 bt282.1 bt282.2 false) else ((tithelaw22_num.f bt282.2).bind fun t288 => (tithelaw22_ResponseBest.j0 k l0 l1 bt282.1 bt282.2 (t288 != 220))))) else (tithelaw22_ResponseBest.j0 k l0 l1 bt282.1 bt282.2 true)))) = some r := H
  have A7 := Aside0.mk A70
  clear A70
  replace H := Option.bind_eq_some_iff.mp H
  obtain ⟨⟨t282, t283⟩, A80, H⟩ := H
  replace H : ((titheref20_Valid.f k l0).bind fun t286 => (if t286 = 0 then ((tithelaw22_num.f t283).bind fun t287 => (if t287 = 0 then (tithelaw22_ResponseBest.j0 k l0 l1 t282 t283 false) else ((tithelaw22_num.f t283).bind fun t288 => (tithelaw22_ResponseBest.j0 k l0 l1 t282 t283 (t288 != 220))))) else (tithelaw22_ResponseBest.j0 k l0 l1 t282 t283 true))) = some r := H
  have A8 := Aside0.mk A80
  clear A80
  have HC9 := Aside0.mk H
  clear H
  go_enter Try.func3, Try.ntmps3
  go_upto_region 4 with (first | ((with_reducible refine gate_callee (f := 6) rfl ?_); refine goesL_ (some 19) rfl rfl Try.func6 (by kernel_rfl) rfl #[.slice A0 l0.length c0] rfl (by (try simp only [List.map_toArray, List.map_cons, List.map_nil]); first | done | rfl | (simp only [List.length_drop, List.length_take]; rfl)) ?_; (with_reducible refine (tithelaw22_twin.calls _ _ l0 t276 _ ?side1 ?side2 A6.out).mono ?_); (case side1 => repeat (first | exact HR0.out | (with_reducible refine Kd.C_alloc ?_ _) | (with_reducible refine Kd.C_drewN ?_ _) | (with_reducible refine Kd.C_drew ?_))); (case side2 => exact HC0.out); rintro e w10 ⟨v277, rfl, ho0, hb⟩; refine ⟨_, rfl, ?_⟩; have n0_ := Aside0.mk (Kd.R_lower ho0 (below_size (by repeat (first | (with_reducible first | exact HB.out | apply below_alloc | apply pw_below_drewN | apply below_drew1) | exact HB.out)))); have n1_ := Aside0.mk (below_step (by repeat (first | (with_reducible first | exact HB.out | apply below_alloc | apply pw_below_drewN | apply below_drew1) | exact HB.out)) hb); clear HB; have HO278 := n0_; have HB := n1_; clear n0_ n1_; (try clear hb); (try clear hb2); (try clear hk); (try clear hi); (try clear ho0)) | ((with_reducible refine gate_callee (f := 7) rfl ?_); refine goesL_ (some 21) rfl rfl Try.func7 (by kernel_rfl) rfl #[.slice A1 l1.length c1] rfl (by (try simp only [List.map_toArray, List.map_cons, List.map_nil]); first | done | rfl | (simp only [List.length_drop, List.length_take]; rfl)) ?_; (with_reducible refine (tithelaw22_row.calls _ _ l1 t279 _ ?side1 ?side2 A7.out).mono ?_); (case side1 => repeat (first | exact (Kd.C_below HR1.out HB.out) | (with_reducible refine Kd.C_alloc ?_ _) | (with_reducible refine Kd.C_drewN ?_ _) | (with_reducible refine Kd.C_drew ?_))); (case side2 => exact HC1.out); rintro e w11 ⟨v280, rfl, ho0, hb⟩; refine ⟨_, rfl, ?_⟩; have n0_ := Aside0.mk (Kd.R_below (by (with_reducible repeat (first | apply Kd.R_alloc | apply Kd.R_drewN | apply Kd.R_drew)); exact HO278.out) hb); have n1_ := Aside0.mk (Kd.R_lower ho0 (below_size (by repeat (first | (with_reducible first | exact HB.out | apply below_alloc | apply pw_below_drewN | apply below_drew1) | exact HB.out)))); have n2_ := Aside0.mk (below_step (by repeat (first | (with_reducible first | exact HB.out | apply below_alloc | apply pw_below_drewN | apply below_drew1) | exact HB.out)) hb); clear HO278; clear HB; have HO278 := n0_; have HO281 := n1_; have HB := n2_; clear n0_ n1_ n2_; (try clear hb); (try clear hb2); (try clear hk); (try clear hi); (try clear ho0); obtain ⟨Ao12, co12, eo12⟩ := Kd.R_slice HO278.out; subst eo12; obtain ⟨Ao13, co13, eo13⟩ := Kd.R_slice HO281.out; subst eo13) | ((with_reducible refine gate_callee (f := 5) rfl ?_); refine goesL_ (some 22) rfl rfl Try.func5 (by kernel_rfl) rfl #[.slice Ao12 t276.length co12, .slice Ao13 t279.length co13] rfl (by (try simp only [List.map_toArray, List.map_cons, List.map_nil]); first | done | rfl | (simp only [List.length_drop, List.length_take]; rfl)) ?_; (with_reducible refine (response_Audsley.calls k _ _ t276 _ _ t279 t282 t283 _ ?side1 ?side2 ?side3 ?side4 A8.out).mono ?_); (case side1 => repeat (first | exact (Kd.R_reads' HO278.out).2.2 | (with_reducible refine Kd.C_alloc ?_ _) | (with_reducible refine Kd.C_drewN ?_ _) | (with_reducible refine Kd.C_drew ?_))); (case side2 => exact (Kd.R_reads' HO278.out).2.1); (case side3 => repeat (first | exact (Kd.R_reads' HO281.out).2.2 | (with_reducible refine Kd.C_alloc ?_ _) | (with_reducible refine Kd.C_drewN ?_ _) | (with_reducible refine Kd.C_drew ?_))); (case side4 => exact (Kd.R_reads' HO281.out).2.1); rintro e w14 ⟨v284, rfl, ho0, hb⟩; refine ⟨_, rfl, ?_⟩; have n0_ := Aside0.mk (Kd.R_elder' (by (with_reducible repeat (first | apply Kd.R_alloc | apply Kd.R_drewN | apply Kd.R_drew)); exact HO278.out) (Kd.R_base ho0) hb); have n1_ := Aside0.mk (Kd.R_below (by (with_reducible repeat (first | apply Kd.R_alloc | apply Kd.R_drewN | apply Kd.R_drew)); exact HO281.out) hb); have n2_ := Aside0.mk (Kd.R_lower (Kd.R_new' ho0 (Kd.R_lt (by (with_reducible repeat (first | apply Kd.R_alloc | apply Kd.R_drewN | apply Kd.R_drew)); exact HO278.out))) (below_size (by repeat (first | (with_reducible first | exact HB.out | apply below_alloc | apply pw_below_drewN | apply below_drew1) | exact HB.out)))); have n3_ := Aside0.mk (below_step (by repeat (first | (with_reducible first | exact HB.out | apply below_alloc | apply pw_below_drewN | apply below_drew1) | exact HB.out)) hb); clear HO278; clear HO281; clear HB; have HO278 := n0_; have HO281 := n1_; have HO285 := n2_; have HB := n3_; clear n0_ n1_ n2_ n3_; (try clear hb); (try clear hb2); (try clear hk); (try clear hi); (try clear ho0); (try simp only [errW_none, errW_some])))
  (try simp only [Act.put, List.setIfInBounds_toArray, List.set_cons_zero, List.set_cons_succ])
  go_cut [37] (fun v37 wc => ∃ (kq : Nat) (x37_8 : Bool), v37 = .bool x37_8 ∧ Aside0 (tithelaw22_ResponseBest.j0 kq l0 l1 t282 t283 x37_8 = some r) ∧ Aside0 (kq ≤ k) ∧ Aside0 (Kd.R k39 39 wc w.heap.size (fun _ => True) v284 t282) ∧ Aside0 (Below w.heap.size w wc))
  case first =>
   have H := HC9.out
   clear HC9
   replace H := Option.bind_eq_some_iff.mp H
   obtain ⟨t286, A150, H⟩ := H
   replace H : (if t286 = 0 then ((tithelaw22_num.f t283).bind fun t287 => (if t287 = 0 then (tithelaw22_ResponseBest.j0 k l0 l1 t282 t283 false) else ((tithelaw22_num.f t283).bind fun t288 => (tithelaw22_ResponseBest.j0 k l0 l1 t282 t283 (t288 != 220))))) else (tithelaw22_ResponseBest.j0 k l0 l1 t282 t283 true)) = some r := H
   have A15 := Aside0.mk A150
   clear A150
   by_cases c16 : t286 = 0
   ·rw [if_pos c16] at H
    have c16b0 : (t286 == 0) = true := beq_iff_eq.mpr c16
    have c16b1 : (t286 != 0) = false := bne_eq_false_iff_eq.mpr c16
    clear c16
    (first | rw [c16b0] | (simp only [i64_w, i32_w]; rw [c16b0]) | skip)
    replace H := Option.bind_eq_some_iff.mp H
    obtain ⟨t287, A170, H⟩ := H
    replace H : (if t287 = 0 then (tithelaw22_ResponseBest.j0 k l0 l1 t282 t283 false) else ((tithelaw22_num.f t283).bind fun t288 => (tithelaw22_ResponseBest.j0 k l0 l1 t282 t283 (t288 != 220)))) = some r := H
    have A17 := Aside0.mk A170
    clear A170
    by_cases c18 : t287 = 0
    ·rw [if_pos c18] at H
     have c18b0 : (t287 == 0) = true := beq_iff_eq.mpr c18
     have c18b1 : (t287 != 0) = false := bne_eq_false_iff_eq.mpr c18
     clear c18
     have H' := Aside0.mk H
     clear H
     go_wp2_with (first | ((with_reducible refine gate_callee (f := 8) rfl ?_); refine goesL_ (some 26) rfl rfl Try.func8 (by kernel_rfl) rfl #[.slice A0 l0.length c0] rfl (by (try simp only [List.map_toArray, List.map_cons, List.map_nil]); first | done | rfl | (simp only [List.length_drop, List.length_take]; rfl)) ?_; (with_reducible refine (titheref20_Valid.calls k _ _ l0 t286 _ ?side1 ?side2 A15.out).mono ?_); (case side1 => repeat (first | exact (Kd.C_below HR0.out HB.out) | (with_reducible refine Kd.C_alloc ?_ _) | (with_reducible refine Kd.C_drewN ?_ _) | (with_reducible refine Kd.C_drew ?_))); (case side2 => exact HC0.out); rintro e w19 ⟨rfl, hb⟩; refine ⟨_, rfl, ?_⟩; have n0_ := Aside0.mk (Kd.R_below (by (with_reducible repeat (first | apply Kd.R_alloc | apply Kd.R_drewN | apply Kd.R_drew)); exact HO278.out) hb); have n1_ := Aside0.mk (Kd.R_below (by (with_reducible repeat (first | apply Kd.R_alloc | apply Kd.R_drewN | apply Kd.R_drew)); exact HO281.out) hb); have n2_ := Aside0.mk (Kd.R_below (by (with_reducible repeat (first | apply Kd.R_alloc | apply Kd.R_drewN | apply Kd.R_drew)); exact HO285.out) hb); have n3_ := Aside0.mk (below_step (by repeat (first | (with_reducible first | exact HB.out | apply below_alloc | apply pw_below_drewN | apply below_drew1) | exact HB.out)) hb); clear HO278; clear HO281; clear HO285; clear HB; have HO278 := n0_; have HO281 := n1_; have HO285 := n2_; have HB := n3_; clear n0_ n1_ n2_ n3_; (try clear hb); (try clear hb2); (try clear hk); (try clear hi); have CA17 := fun W => tithelaw22_num.calls t283 t287 W A17.out; try simp only [errW_none, errW_some] at CA17) | (go_at_call 9; (with_reducible refine (CA17 _).mono ?_); rintro e w' ⟨rfl, ⟨nd, rfl⟩⟩))
     go_meet
     case rel => exact ⟨_, (false), (by first | rfl | (simp; done) | (simp [*]; done)), H', ⟨by first | omega | exact Nat.le_refl _⟩, ⟨by (with_reducible repeat (first | apply Kd.R_alloc | apply Kd.R_drewN | apply Kd.R_drew)); exact Kd.R_mono HO285.out (fun _ hk => trivial)⟩, ⟨by repeat (first | (with_reducible first | exact HB.out | apply below_alloc | apply pw_below_drewN | apply below_drew1) | exact HB.out)⟩⟩
    ·rw [if_neg c18] at H
     have c18b0 : (t287 == 0) = false := beq_eq_false_iff_ne.mpr c18
     have c18b1 : (t287 != 0) = true := bne_iff_ne.mpr c18
     replace H := Option.bind_eq_some_iff.mp H
     obtain ⟨t288, A200, H⟩ := H
     replace H : (tithelaw22_ResponseBest.j0 k l0 l1 t282 t283 (t288 != 220)) = some r := H
     have A20 := Aside0.mk A200
     clear A200
     have H' := Aside0.mk H
     clear H
     go_wp2_with (first | ((with_reducible refine gate_callee (f := 8) rfl ?_); refine goesL_ (some 26) rfl rfl Try.func8 (by kernel_rfl) rfl #[.slice A0 l0.length c0] rfl (by (try simp only [List.map_toArray, List.map_cons, List.map_nil]); first | done | rfl | (simp only [List.length_drop, List.length_take]; rfl)) ?_; (with_reducible refine (titheref20_Valid.calls k _ _ l0 t286 _ ?side1 ?side2 A15.out).mono ?_); (case side1 => repeat (first | exact (Kd.C_below HR0.out HB.out) | (with_reducible refine Kd.C_alloc ?_ _) | (with_reducible refine Kd.C_drewN ?_ _) | (with_reducible refine Kd.C_drew ?_))); (case side2 => exact HC0.out); rintro e w21 ⟨rfl, hb⟩; refine ⟨_, rfl, ?_⟩; have n0_ := Aside0.mk (Kd.R_below (by (with_reducible repeat (first | apply Kd.R_alloc | apply Kd.R_drewN | apply Kd.R_drew)); exact HO278.out) hb); have n1_ := Aside0.mk (Kd.R_below (by (with_reducible repeat (first | apply Kd.R_alloc | apply Kd.R_drewN | apply Kd.R_drew)); exact HO281.out) hb); have n2_ := Aside0.mk (Kd.R_below (by (with_reducible repeat (first | apply Kd.R_alloc | apply Kd.R_drewN | apply Kd.R_drew)); exact HO285.out) hb); have n3_ := Aside0.mk (below_step (by repeat (first | (with_reducible first | exact HB.out | apply below_alloc | apply pw_below_drewN | apply below_drew1) | exact HB.out)) hb); clear HO278; clear HO281; clear HO285; clear HB; have HO278 := n0_; have HO281 := n1_; have HO285 := n2_; have HB := n3_; clear n0_ n1_ n2_ n3_; (try clear hb); (try clear hb2); (try clear hk); (try clear hi); have CA17 := fun W => tithelaw22_num.calls t283 t287 W A17.out; try simp only [errW_none, errW_some] at CA17) | (go_at_call 9; (with_reducible refine (CA17 _).mono ?_); rintro e w' ⟨rfl, ⟨nd, rfl⟩⟩; have CA20 := fun W => tithelaw22_num.calls t283 t288 W A20.out; try simp only [errW_none, errW_some] at CA20) | (go_at_call 9; (with_reducible refine (CA20 _).mono ?_); rintro e w' ⟨rfl, ⟨nd, rfl⟩⟩))
     go_meet
     case rel => exact ⟨_, ((t288 != 220)), (by rw [Option.some.inj (A17.out.symm.trans A20.out)]), H', ⟨by first | omega | exact Nat.le_refl _⟩, ⟨by (with_reducible repeat (first | apply Kd.R_alloc | apply Kd.R_drewN | apply Kd.R_drew)); exact Kd.R_mono HO285.out (fun _ hk => trivial)⟩, ⟨by repeat (first | (with_reducible first | exact HB.out | apply below_alloc | apply pw_below_drewN | apply below_drew1) | exact HB.out)⟩⟩
   ·rw [if_neg c16] at H
    have c16b0 : (t286 == 0) = false := beq_eq_false_iff_ne.mpr c16
    have c16b1 : (t286 != 0) = true := bne_iff_ne.mpr c16
    (first | rw [c16b0] | (simp only [i64_w, i32_w]; rw [c16b0]) | skip)
    have H' := Aside0.mk H
    clear H
    go_wp2_with (first | ((with_reducible refine gate_callee (f := 8) rfl ?_); refine goesL_ (some 26) rfl rfl Try.func8 (by kernel_rfl) rfl #[.slice A0 l0.length c0] rfl (by (try simp only [List.map_toArray, List.map_cons, List.map_nil]); first | done | rfl | (simp only [List.length_drop, List.length_take]; rfl)) ?_; (with_reducible refine (titheref20_Valid.calls k _ _ l0 t286 _ ?side1 ?side2 A15.out).mono ?_); (case side1 => repeat (first | exact (Kd.C_below HR0.out HB.out) | (with_reducible refine Kd.C_alloc ?_ _) | (with_reducible refine Kd.C_drewN ?_ _) | (with_reducible refine Kd.C_drew ?_))); (case side2 => exact HC0.out); rintro e w22 ⟨rfl, hb⟩; refine ⟨_, rfl, ?_⟩; have n0_ := Aside0.mk (Kd.R_below (by (with_reducible repeat (first | apply Kd.R_alloc | apply Kd.R_drewN | apply Kd.R_drew)); exact HO278.out) hb); have n1_ := Aside0.mk (Kd.R_below (by (with_reducible repeat (first | apply Kd.R_alloc | apply Kd.R_drewN | apply Kd.R_drew)); exact HO281.out) hb); have n2_ := Aside0.mk (Kd.R_below (by (with_reducible repeat (first | apply Kd.R_alloc | apply Kd.R_drewN | apply Kd.R_drew)); exact HO285.out) hb); have n3_ := Aside0.mk (below_step (by repeat (first | (with_reducible first | exact HB.out | apply below_alloc | apply pw_below_drewN | apply below_drew1) | exact HB.out)) hb); clear HO278; clear HO281; clear HO285; clear HB; have HO278 := n0_; have HO281 := n1_; have HO285 := n2_; have HB := n3_; clear n0_ n1_ n2_ n3_; (try clear hb); (try clear hb2); (try clear hk); (try clear hi)))
    go_meet
    case rel => exact ⟨_, (true), (by first | rfl | (simp; done) | (simp [*]; done)), H', ⟨by first | omega | exact Nat.le_refl _⟩, ⟨by (with_reducible repeat (first | apply Kd.R_alloc | apply Kd.R_drewN | apply Kd.R_drew)); exact Kd.R_mono HO285.out (fun _ hk => trivial)⟩, ⟨by repeat (first | (with_reducible first | exact HB.out | apply below_alloc | apply pw_below_drewN | apply below_drew1) | exact HB.out)⟩⟩
  case rest =>
   clear HC9
   try clear c1
   try clear p2
   try clear c3
   try clear c3b0
   try clear c3b1
   try clear c4
   try clear c5
   try clear c6
   try clear c7
   try clear c8
   try clear c16
   try clear c16b0
   try clear c16b1
   try clear c18
   try clear c18b0
   try clear c18b1
   obtain ⟨kq, x37_8, rfl, HA, HJ8, HO_5, HB⟩ := hcut
   cases kq with
   | zero => exact absurd HA.out (by simp [tithelaw22_ResponseBest.j0])
   | succ kj8 =>
    have H := HA.out
    clear HA
    simp only [tithelaw22_ResponseBest.j0] at H
    by_cases c23 : x37_8 = true
    ·subst c23
     have H1 : (if t283.isNone = true then (none) else (if (t282.length : Int) = 0 then ((tithelaw22_works.f kj8).bind fun t290 => (some t290)) else (none))) = some r := by rw [if_pos rfl] at H; exact H
     clear H
     have H := H1
     clear H1
     rcases t283 with _ | q289
     ·have H1 : (none) = some r := by rw [if_pos (show (none : Option Int).isNone = true by rfl)] at H; exact H
      exact absurd H1 (by simp)
     ·have H1 : (if (t282.length : Int) = 0 then ((tithelaw22_works.f kj8).bind fun t290 => (some t290)) else (none)) = some r := by rw [if_neg (show ¬ (some q289).isNone = true by simp)] at H; exact H
      clear H
      have H := H1
      clear H1
      try simp only [errW_none, errW_some]
      by_cases c24 : (t282.length : Int) = 0
      ·rw [if_pos c24] at H
       have c24b0 : ((t282.length : Int) == 0) = true := beq_iff_eq.mpr c24
       have c24b1 : ((t282.length : Int) != 0) = false := bne_eq_false_iff_eq.mpr c24
       clear c24
       replace H := Option.bind_eq_some_iff.mp H
       obtain ⟨t290, A250, H⟩ := H
       replace H : (some t290) = some r := H
       have A25 := Aside0.mk A250
       clear A250
       obtain rfl := Option.some.inj H
       obtain ⟨Ao26, co26, eo26⟩ := Kd.R_slice HO_5.out
       subst eo26
       go_wp2_with (first | (go_at_call 4; (with_reducible refine (tithelaw22_works.calls kj8  t290 _ A25.out).mono ?_); rintro e w27 ⟨rfl, hb⟩; have n0_ := Aside0.mk (Kd.R_below (by (with_reducible repeat (first | apply Kd.R_alloc | apply Kd.R_drewN | apply Kd.R_drew)); exact HO_5.out) hb); have n1_ := Aside0.mk (below_step (by repeat (first | (with_reducible first | exact HB.out | apply below_alloc | apply pw_below_drewN | apply below_drew1) | exact HB.out)) hb); clear HO_5; clear HB; have HO_5 := n0_; have HB := n1_; clear n0_ n1_; (try clear hb); (try clear hb2); (try clear hk); (try clear hi)))
       go_ret
       exact ⟨by first | rfl | (simp [errW_none, errW_some] <;> rfl) | (simp [*, errW_none, errW_some] <;> rfl), by repeat (first | (with_reducible first | exact HB.out | apply below_alloc | apply pw_below_drewN | apply below_drew1) | exact HB.out)⟩
      ·rw [if_neg c24] at H; exact absurd H (by simp)
    ·replace c23 := Bool.eq_false_iff.mpr c23
     subst c23
     have H1 : ((tithelaw22_twin.f l0).bind fun t291 => (if 0 ≤ (l0.length : Int) then (if ((l0.length : Int) : Int).toNat ≤ 281474976710656 then ((tithelaw22_permuted.f kj8 t291 (List.replicate ((l0.length : Int) : Int).toNat false) 0 l1).bind fun bt297 => (if t283.isNone = true then (if (bt297.1 != true) = true then (none) else ((tithelaw22_twin.f l0).bind fun t301 => ((demand_Deadline.f kj8 t301).bind fun bt304 => (if bt297.1 = true then (if (t282.length : Int) = (l0.length : Int) then (if okA l0 t282 = true then ((titheref22_Fits.f kj8 t282 l1).bind fun t315 => (if t315 = 0 then (if bt304.2.isNone = true then ((tithelaw22_row.f l1).bind fun t317 => ((response_Fits.f kj8 bt304.1 t317).bind fun t320 => (if t320.isNone = true then ((tithelaw22_works.f kj8).bind fun t322 => (some t322)) else (none)))) else (none)) else (none))) else (none)) else (none)) else (if (t282.length : Int) = 0 then (if bt304.2.isNone = true then ((tithelaw22_row.f l1).bind fun t309 => ((response_Fits.f kj8 bt304.1 t309).bind fun t312 => ((tithelaw22_num.f t312).bind fun t313 => (if t313 = 220 then ((tithelaw22_works.f kj8).bind fun t314 => (some t314)) else (none))))) else (none)) else (none)))))) else (if (bt297.1 != false) = true then (none) else ((tithelaw22_twin.f l0).bind fun t323 => ((demand_Deadline.f kj8 t323).bind fun bt326 => (if bt297.1 = true then (if (t282.length : Int) = (l0.length : Int) then (if okA l0 t282 = true then ((titheref22_Fits.f kj8 t282 l1).bind fun t337 => (if t337 = 0 then (if bt326.2.isNone = true then ((tithelaw22_row.f l1).bind fun t339 => ((response_Fits.f kj8 bt326.1 t339).bind fun t342 => (if t342.isNone = true then ((tithelaw22_works.f kj8).bind fun t344 => (some t344)) else (none)))) else (none)) else (none))) else (none)) else (none)) else (if (t282.length : Int) = 0 then (if bt326.2.isNone = true then ((tithelaw22_row.f l1).bind fun t331 => ((response_Fits.f kj8 bt326.1 t331).bind fun t334 => ((tithelaw22_num.f t334).bind fun t335 => (if t335 = 220 then ((tithelaw22_works.f kj8).bind fun t336 => (some t336)) else (none))))) else (none)) else (none)))))))) else (none)) else (none))) = some r := by rw [if_neg (show ¬ (false = true) by decide)] at H; exact H
     clear H
     have H := H1
     clear H1
     replace H := Option.bind_eq_some_iff.mp H
     obtain ⟨t291, A290, H⟩ := H
     replace H : (if 0 ≤ (l0.length : Int) then (if ((l0.length : Int) : Int).toNat ≤ 281474976710656 then ((tithelaw22_permuted.f kj8 t291 (List.replicate ((l0.length : Int) : Int).toNat false) 0 l1).bind fun bt297 => (if t283.isNone = true then (if (bt297.1 != true) = true then (none) else ((tithelaw22_twin.f l0).bind fun t301 => ((demand_Deadline.f kj8 t301).bind fun bt304 => (if bt297.1 = true then (if (t282.length : Int) = (l0.length : Int) then (if okA l0 t282 = true then ((titheref22_Fits.f kj8 t282 l1).bind fun t315 => (if t315 = 0 then (if bt304.2.isNone = true then ((tithelaw22_row.f l1).bind fun t317 => ((response_Fits.f kj8 bt304.1 t317).bind fun t320 => (if t320.isNone = true then ((tithelaw22_works.f kj8).bind fun t322 => (some t322)) else (none)))) else (none)) else (none))) else (none)) else (none)) else (if (t282.length : Int) = 0 then (if bt304.2.isNone = true then ((tithelaw22_row.f l1).bind fun t309 => ((response_Fits.f kj8 bt304.1 t309).bind fun t312 => ((tithelaw22_num.f t312).bind fun t313 => (if t313 = 220 then ((tithelaw22_works.f kj8).bind fun t314 => (some t314)) else (none))))) else (none)) else (none)))))) else (if (bt297.1 != false) = true then (none) else ((tithelaw22_twin.f l0).bind fun t323 => ((demand_Deadline.f kj8 t323).bind fun bt326 => (if bt297.1 = true then (if (t282.length : Int) = (l0.length : Int) then (if okA l0 t282 = true then ((titheref22_Fits.f kj8 t282 l1).bind fun t337 => (if t337 = 0 then (if bt326.2.isNone = true then ((tithelaw22_row.f l1).bind fun t339 => ((response_Fits.f kj8 bt326.1 t339).bind fun t342 => (if t342.isNone = true then ((tithelaw22_works.f kj8).bind fun t344 => (some t344)) else (none)))) else (none)) else (none))) else (none)) else (none)) else (if (t282.length : Int) = 0 then (if bt326.2.isNone = true then ((tithelaw22_row.f l1).bind fun t331 => ((response_Fits.f kj8 bt326.1 t331).bind fun t334 => ((tithelaw22_num.f t334).bind fun t335 => (if t335 = 220 then ((tithelaw22_works.f kj8).bind fun t336 => (some t336)) else (none))))) else (none)) else (none)))))))) else (none)) else (none)) = some r := H
     have A29 := Aside0.mk A290
     clear A290
     by_cases c30 : 0 ≤ (l0.length : Int)
     ·rw [if_pos c30] at H
      have c30b0 := eq_true c30
      have c30b1 : decide (0 ≤ (l0.length : Int)) = true := decide_eq_true c30
      clear c30
      by_cases c31 : ((l0.length : Int) : Int).toNat ≤ 281474976710656
      ·rw [if_pos c31] at H
       have c31b0 := eq_true c31
       have c31b1 : decide (((l0.length : Int) : Int).toNat ≤ 281474976710656) = true := decide_eq_true c31
       clear c31
       obtain ⟨y294, hy294⟩ : ∃ y_ : List Bool, y_ = (List.replicate ((l0.length : Int) : Int).toNat false) := ⟨_, rfl⟩
       replace H : ((tithelaw22_permuted.f kj8 t291 y294 0 l1).bind fun bt297 => (if t283.isNone = true then (if (bt297.1 != true) = true then (none) else ((tithelaw22_twin.f l0).bind fun t301 => ((demand_Deadline.f kj8 t301).bind fun bt304 => (if bt297.1 = true then (if (t282.length : Int) = (l0.length : Int) then (if okA l0 t282 = true then ((titheref22_Fits.f kj8 t282 l1).bind fun t315 => (if t315 = 0 then (if bt304.2.isNone = true then ((tithelaw22_row.f l1).bind fun t317 => ((response_Fits.f kj8 bt304.1 t317).bind fun t320 => (if t320.isNone = true then ((tithelaw22_works.f kj8).bind fun t322 => (some t322)) else (none)))) else (none)) else (none))) else (none)) else (none)) else (if (t282.length : Int) = 0 then (if bt304.2.isNone = true then ((tithelaw22_row.f l1).bind fun t309 => ((response_Fits.f kj8 bt304.1 t309).bind fun t312 => ((tithelaw22_num.f t312).bind fun t313 => (if t313 = 220 then ((tithelaw22_works.f kj8).bind fun t314 => (some t314)) else (none))))) else (none)) else (none)))))) else (if (bt297.1 != false) = true then (none) else ((tithelaw22_twin.f l0).bind fun t323 => ((demand_Deadline.f kj8 t323).bind fun bt326 => (if bt297.1 = true then (if (t282.length : Int) = (l0.length : Int) then (if okA l0 t282 = true then ((titheref22_Fits.f kj8 t282 l1).bind fun t337 => (if t337 = 0 then (if bt326.2.isNone = true then ((tithelaw22_row.f l1).bind fun t339 => ((response_Fits.f kj8 bt326.1 t339).bind fun t342 => (if t342.isNone = true then ((tithelaw22_works.f kj8).bind fun t344 => (some t344)) else (none)))) else (none)) else (none))) else (none)) else (none)) else (if (t282.length : Int) = 0 then (if bt326.2.isNone = true then ((tithelaw22_row.f l1).bind fun t331 => ((response_Fits.f kj8 bt326.1 t331).bind fun t334 => ((tithelaw22_num.f t334).bind fun t335 => (if t335 = 220 then ((tithelaw22_works.f kj8).bind fun t336 => (some t336)) else (none))))) else (none)) else (none)))))))) = some r := by first | (rw [hy294]; with_reducible exact H) | (have H2_ := (Option.bind_some _ _).symm.trans H; rw [hy294]; with_reducible exact H2_) | (have H2_ := (Option.bind_some _ _).symm.trans H; with_reducible exact H2_) | with_reducible exact H | (rw [hy294]; exact H) | exact H
       have Ny294 := Aside0.mk hy294
       clear hy294
       replace H := Option.bind_eq_some_iff.mp H
       obtain ⟨⟨t297, t298, t299⟩, A320, H⟩ := H
       replace H : (if t283.isNone = true then (if (t297 != true) = true then (none) else ((tithelaw22_twin.f l0).bind fun t301 => ((demand_Deadline.f kj8 t301).bind fun bt304 => (if t297 = true then (if (t282.length : Int) = (l0.length : Int) then (if okA l0 t282 = true then ((titheref22_Fits.f kj8 t282 l1).bind fun t315 => (if t315 = 0 then (if bt304.2.isNone = true then ((tithelaw22_row.f l1).bind fun t317 => ((response_Fits.f kj8 bt304.1 t317).bind fun t320 => (if t320.isNone = true then ((tithelaw22_works.f kj8).bind fun t322 => (some t322)) else (none)))) else (none)) else (none))) else (none)) else (none)) else (if (t282.length : Int) = 0 then (if bt304.2.isNone = true then ((tithelaw22_row.f l1).bind fun t309 => ((response_Fits.f kj8 bt304.1 t309).bind fun t312 => ((tithelaw22_num.f t312).bind fun t313 => (if t313 = 220 then ((tithelaw22_works.f kj8).bind fun t314 => (some t314)) else (none))))) else (none)) else (none)))))) else (if (t297 != false) = true then (none) else ((tithelaw22_twin.f l0).bind fun t323 => ((demand_Deadline.f kj8 t323).bind fun bt326 => (if t297 = true then (if (t282.length : Int) = (l0.length : Int) then (if okA l0 t282 = true then ((titheref22_Fits.f kj8 t282 l1).bind fun t337 => (if t337 = 0 then (if bt326.2.isNone = true then ((tithelaw22_row.f l1).bind fun t339 => ((response_Fits.f kj8 bt326.1 t339).bind fun t342 => (if t342.isNone = true then ((tithelaw22_works.f kj8).bind fun t344 => (some t344)) else (none)))) else (none)) else (none))) else (none)) else (none)) else (if (t282.length : Int) = 0 then (if bt326.2.isNone = true then ((tithelaw22_row.f l1).bind fun t331 => ((response_Fits.f kj8 bt326.1 t331).bind fun t334 => ((tithelaw22_num.f t334).bind fun t335 => (if t335 = 220 then ((tithelaw22_works.f kj8).bind fun t336 => (some t336)) else (none))))) else (none)) else (none))))))) = some r := H
       have A32 := Aside0.mk A320
       clear A320
       rcases t283 with _ | q300
       ·have H1 : (if (t297 != true) = true then (none) else ((tithelaw22_twin.f l0).bind fun t301 => ((demand_Deadline.f kj8 t301).bind fun bt304 => (if t297 = true then (if (t282.length : Int) = (l0.length : Int) then (if okA l0 t282 = true then ((titheref22_Fits.f kj8 t282 l1).bind fun t315 => (if t315 = 0 then (if bt304.2.isNone = true then ((tithelaw22_row.f l1).bind fun t317 => ((response_Fits.f kj8 bt304.1 t317).bind fun t320 => (if t320.isNone = true then ((tithelaw22_works.f kj8).bind fun t322 => (some t322)) else (none)))) else (none)) else (none))) else (none)) else (none)) else (if (t282.length : Int) = 0 then (if bt304.2.isNone = true then ((tithelaw22_row.f l1).bind fun t309 => ((response_Fits.f kj8 bt304.1 t309).bind fun t312 => ((tithelaw22_num.f t312).bind fun t313 => (if t313 = 220 then ((tithelaw22_works.f kj8).bind fun t314 => (some t314)) else (none))))) else (none)) else (none)))))) = some r := by rw [if_pos (show (none : Option Int).isNone = true by rfl)] at H; exact H
        clear H
        have H := H1
        clear H1
        try simp only [errW_none, errW_some]
        by_cases c33 : (t297 != true) = true
        ·rw [if_pos c33] at H; exact absurd H (by simp)
        ·rw [if_neg c33] at H
         have c33b0 : (t297 != true) = false := by first | (simp; done) | (simp at c33; done) | simpa using c33
         (try (have c33b1 : decide (t297 = true) = true := by first | (simp; done) | (simp at c33; done) | simpa using c33))
         (try (have c33b2 : (t297 == true) = true := by first | (simp; done) | (simp at c33; done) | simpa using c33))
         clear c33
         replace H := Option.bind_eq_some_iff.mp H
         obtain ⟨t301, A420, H⟩ := H
         replace H : ((demand_Deadline.f kj8 t301).bind fun bt304 => (if t297 = true then (if (t282.length : Int) = (l0.length : Int) then (if okA l0 t282 = true then ((titheref22_Fits.f kj8 t282 l1).bind fun t315 => (if t315 = 0 then (if bt304.2.isNone = true then ((tithelaw22_row.f l1).bind fun t317 => ((response_Fits.f kj8 bt304.1 t317).bind fun t320 => (if t320.isNone = true then ((tithelaw22_works.f kj8).bind fun t322 => (some t322)) else (none)))) else (none)) else (none))) else (none)) else (none)) else (if (t282.length : Int) = 0 then (if bt304.2.isNone = true then ((tithelaw22_row.f l1).bind fun t309 => ((response_Fits.f kj8 bt304.1 t309).bind fun t312 => ((tithelaw22_num.f t312).bind fun t313 => (if t313 = 220 then ((tithelaw22_works.f kj8).bind fun t314 => (some t314)) else (none))))) else (none)) else (none)))) = some r := H
         have A42 := Aside0.mk A420
         clear A420
         replace H := Option.bind_eq_some_iff.mp H
         obtain ⟨⟨t304, t305⟩, A430, H⟩ := H
         replace H : (if t297 = true then (if (t282.length : Int) = (l0.length : Int) then (if okA l0 t282 = true then ((titheref22_Fits.f kj8 t282 l1).bind fun t315 => (if t315 = 0 then (if t305.isNone = true then ((tithelaw22_row.f l1).bind fun t317 => ((response_Fits.f kj8 t304 t317).bind fun t320 => (if t320.isNone = true then ((tithelaw22_works.f kj8).bind fun t322 => (some t322)) else (none)))) else (none)) else (none))) else (none)) else (none)) else (if (t282.length : Int) = 0 then (if t305.isNone = true then ((tithelaw22_row.f l1).bind fun t309 => ((response_Fits.f kj8 t304 t309).bind fun t312 => ((tithelaw22_num.f t312).bind fun t313 => (if t313 = 220 then ((tithelaw22_works.f kj8).bind fun t314 => (some t314)) else (none))))) else (none)) else (none))) = some r := H
         have A43 := Aside0.mk A430
         clear A430
         by_cases c44 : t297 = true
         ·subst c44
          have H1 : (if (t282.length : Int) = (l0.length : Int) then (if okA l0 t282 = true then ((titheref22_Fits.f kj8 t282 l1).bind fun t315 => (if t315 = 0 then (if t305.isNone = true then ((tithelaw22_row.f l1).bind fun t317 => ((response_Fits.f kj8 t304 t317).bind fun t320 => (if t320.isNone = true then ((tithelaw22_works.f kj8).bind fun t322 => (some t322)) else (none)))) else (none)) else (none))) else (none)) else (none)) = some r := by rw [if_pos rfl] at H; exact H
          clear H
          have H := H1
          clear H1
          by_cases c45 : (t282.length : Int) = (l0.length : Int)
          ·rw [if_pos c45] at H
           have hlen : t282.length = l0.length := by omega
           by_cases cok : okA l0 t282 = true
           case neg => rw [if_neg cok] at H; exact absurd H (by simp)
           rw [if_pos cok] at H
           have HOK := Aside0.mk cok
           have HLE := Aside0.mk hlen
           clear cok hlen
           have c45b0 : ((t282.length : Int) == (l0.length : Int)) = true := beq_iff_eq.mpr c45
           have c45b1 : ((t282.length : Int) != (l0.length : Int)) = false := bne_eq_false_iff_eq.mpr c45
           have c45b2 : (t282.length == l0.length) = true := by first | simpa using c45 | (simp at c45 ⊢; omega)
           clear c45
           replace H := Option.bind_eq_some_iff.mp H
           obtain ⟨t315, A460, H⟩ := H
           replace H : (if t315 = 0 then (if t305.isNone = true then ((tithelaw22_row.f l1).bind fun t317 => ((response_Fits.f kj8 t304 t317).bind fun t320 => (if t320.isNone = true then ((tithelaw22_works.f kj8).bind fun t322 => (some t322)) else (none)))) else (none)) else (none)) = some r := H
           have A46 := Aside0.mk A460
           clear A460
           by_cases c47 : t315 = 0
           ·rw [if_pos c47] at H
            have c47b0 : (t315 == 0) = true := beq_iff_eq.mpr c47
            have c47b1 : (t315 != 0) = false := bne_eq_false_iff_eq.mpr c47
            clear c47
            rcases t305 with _ | q316
            ·have H1 : ((tithelaw22_row.f l1).bind fun t317 => ((response_Fits.f kj8 t304 t317).bind fun t320 => (if t320.isNone = true then ((tithelaw22_works.f kj8).bind fun t322 => (some t322)) else (none)))) = some r := by rw [if_pos (show (none : Option Int).isNone = true by rfl)] at H; exact H
             clear H
             have H := H1
             clear H1
             try simp only [errW_none, errW_some]
             replace H := Option.bind_eq_some_iff.mp H
             obtain ⟨t317, A480, H⟩ := H
             replace H : ((response_Fits.f kj8 t304 t317).bind fun t320 => (if t320.isNone = true then ((tithelaw22_works.f kj8).bind fun t322 => (some t322)) else (none))) = some r := H
             have A48 := Aside0.mk A480
             clear A480
             replace H := Option.bind_eq_some_iff.mp H
             obtain ⟨t320, A490, H⟩ := H
             replace H : (if t320.isNone = true then ((tithelaw22_works.f kj8).bind fun t322 => (some t322)) else (none)) = some r := H
             have A49 := Aside0.mk A490
             clear A490
             rcases t320 with _ | q321
             ·have H1 : ((tithelaw22_works.f kj8).bind fun t322 => (some t322)) = some r := by rw [if_pos (show (none : Option Int).isNone = true by rfl)] at H; exact H
              clear H
              have H := H1
              clear H1
              try simp only [errW_none, errW_some]
              replace H := Option.bind_eq_some_iff.mp H
              obtain ⟨t322, A500, H⟩ := H
              replace H : (some t322) = some r := H
              have A50 := Aside0.mk A500
              clear A500
              obtain rfl := Option.some.inj H
              try go_wp2
              have n0_ := Aside0.mk (Kd.R_drew HO_5.out)
              have n1_ := Aside0.mk (below_drew1 HB.out)
              clear HO_5
              clear HB
              have HO_5 := n0_
              have HB := n1_
              clear n0_ n1_
              refine start_ (n := 8) (S := fun w' => True) (ds := []) #[false, false, false, false, false, false, false, false] (by kernel_rfl) rfl rfl trivial (fun hHeld => ?_); refine with_tabW tithelaw22_ResponseBest.tab6 tithelaw22_ResponseBest.bits6 (fun HT_ HW_ => ?_)
              generalize wc.drew = w51 at HO_5 HB hHeld ⊢
              refine pure_ (i := 0) (N := some 48) (v := ?_) (a' := ?_) #[true, false, false, false, false, false, false, false] rfl rfl (any_of HT_.out (by kernel_rfl)) (fun _ _ _ h => h) (Or.inl ⟨by rfl, ?_⟩) ?_ ?_
              rotate_left
              ·intro w'
               go_simp
               with_reducible rfl
              rotate_left
              ·simp only [Act.put, List.setIfInBounds_toArray, List.set_cons_zero, List.set_cons_succ, i64_w, i32_w]
               rfl
              refine pure_ (i := 2) (N := some 50) (v := ?_) (a' := ?_) #[true, false, true, false, false, false, false, false] rfl rfl (any_of HT_.out (by kernel_rfl)) (fun _ _ _ h => h) (Or.inl ⟨by rfl, ?_⟩) ?_ ?_
              rotate_left
              ·intro w'
               go_simp
               with_reducible rfl
              rotate_left
              ·simp only [Act.put, List.setIfInBounds_toArray, List.set_cons_zero, List.set_cons_succ, i64_w, i32_w]
               rfl
              refine pure_ (i := 3) (N := some 51) (v := ?_) (a' := ?_) #[true, false, true, true, false, false, false, false] rfl rfl (any_of HT_.out (by kernel_rfl)) (fun _ _ _ h => h) (Or.inl ⟨by rfl, ?_⟩) ?_ ?_
              rotate_left
              ·intro w'
               go_simp
               with_reducible rfl
              rotate_left
              ·simp only [Act.put, List.setIfInBounds_toArray, List.set_cons_zero, List.set_cons_succ, i64_w, i32_w]
               rfl
              refine pure_ (i := 5) (N := some 53) (v := ?_) (a' := ?_) #[true, false, true, true, false, true, false, false] rfl rfl (any_of HT_.out (by kernel_rfl)) (fun _ _ _ h => h) (Or.inl ⟨by rfl, ?_⟩) ?_ ?_
              rotate_left
              ·intro w'
               go_simp
               with_reducible rfl
              rotate_left
              ·simp only [Act.put, List.setIfInBounds_toArray, List.set_cons_zero, List.set_cons_succ, i64_w, i32_w]
               rfl
              refine join_ (σ := Value × Value) 2 #[true, true, true, true, true, true, false, false] (fun s_ => [(49, s_.1), (52, s_.2)]) (fun s_ w' => (Kd.R k39 39 w' w.heap.size (fun k_ => some k_ ≠ (v284 : Value).ownBlock) s_.1 t291) ∧ (Kd.R Kd.bool 4 w' w.heap.size (fun _ => True) s_.2 y294) ∧ (Kd.R k39 39 w' w.heap.size (fun k_ => some k_ ≠ (s_.1 : Value).ownBlock) v284 t282) ∧ (Below w.heap.size w w')) ?_ ?_
              rotate_left
              ·intro hCont
               refine two_ (i := 1) (j := 4) (Ni := some 49) (Nj := some 52) #[true, true, true, true, false, true, false, false] #[true, false, true, true, true, true, false, false] rfl rfl rfl rfl (two_of HT_.out (by kernel_rfl)) (by decide) (by decide) (fun K hK => ?_) (fun K hK => ?_)
               ·skip
                refine goes_ Try.func6 (by kernel_rfl) rfl #[.slice A0 l0.length c0] (by rfl) rfl rfl (by (try simp only [List.map_toArray, List.map_cons, List.map_nil]); first | done | rfl | (simp only [List.length_drop, List.length_take]; rfl)) ?_
                with_reducible refine (tithelaw22_twin.calls _ _ l0 t291 _ ?side1 ?side2 A29.out).mono ?_
                (case side1 => repeat (first | exact (Kd.C_below HR0.out HB.out) | (with_reducible refine Kd.C_alloc ?_ _) | (with_reducible refine Kd.C_drewN ?_ _) | (with_reducible refine Kd.C_drew ?_)))
                (case side2 => exact HC0.out)
                rintro e w52 ⟨v292, rfl, ho0, hb⟩
                refine ⟨_, rfl, ?_⟩
                have n0_ := Aside0.mk (Kd.R_elder' (by (with_reducible repeat (first | apply Kd.R_alloc | apply Kd.R_drewN | apply Kd.R_drew)); exact HO_5.out) (Kd.R_base ho0) hb)
                have n1_ := Aside0.mk (Kd.R_lower (Kd.R_new' ho0 (Kd.R_lt (by (with_reducible repeat (first | apply Kd.R_alloc | apply Kd.R_drewN | apply Kd.R_drew)); exact HO_5.out))) (below_size (by repeat (first | (with_reducible first | exact HB.out | apply below_alloc | apply pw_below_drewN | apply below_drew1) | exact HB.out))))
                have n2_ := Aside0.mk (below_step (by repeat (first | (with_reducible first | exact HB.out | apply below_alloc | apply pw_below_drewN | apply below_drew1) | exact HB.out)) hb)
                clear HO_5
                clear HB
                have HO_5 := n0_
                have HO293 := n1_
                have HB := n2_
                clear n0_ n1_ n2_
                (try clear hb)
                (try clear hb2)
                (try clear hk)
                (try clear hi)
                (try clear ho0)
                refine hK.out _ _ trivial (fun hHeld => ?_)
                clear hK K
                refine norm_ (a' := ?_) ?_ ?_
                rotate_left
                ·show Act.put _ (some 49) _ = _
                 simp only [Act.put, List.setIfInBounds_toArray, List.set_cons_zero, List.set_cons_succ, i64_w, i32_w]
                 rfl
                refine one_ (i := 4) (N := some 52) #[true, true, true, true, true, true, false, false] rfl rfl (one_of HT_.out (by kernel_rfl)) (by decide) (fun K hK => ?_)
                refine Kd.R_make_step Kd.bool _ 4 (by rfl) (N := 52) rfl 34 _ _ rfl (l0.length : Int) rfl rfl Try.underlying34 (.bool false) 1 info4 rfl (by decide) (by omega) false (ok := fun _ => True) (okp := fun _ => True) rfl (fun _ hk => hk) trivial (of_decide_eq_true (by first | (with_reducible assumption) | assumption)) (Nat.le_trans (Nat.mul_le_mul_right _ (of_decide_eq_true (by first | (with_reducible assumption) | assumption) : (l0.length : Int).toNat ≤ 281474976710656)) (by omega)) (Below.refl _ _) (Nat.le_refl _) ?_
                intro v295 w53 ho54 hb hg_ hnew_
                clear hg_ hnew_
                (first | rw [← Ny294.out] at ho54 | (simp only [Int.reduceToNat] at ho54; rw [← Ny294.out] at ho54))
                have n0_ := Aside0.mk (Kd.R_below (by (with_reducible repeat (first | apply Kd.R_alloc | apply Kd.R_drewN | apply Kd.R_drew)); exact HO_5.out) hb)
                have n1_ := Aside0.mk (Kd.R_below (by (with_reducible repeat (first | apply Kd.R_alloc | apply Kd.R_drewN | apply Kd.R_drew)); exact HO293.out) hb)
                have n2_ := Aside0.mk (Kd.R_lower ho54 (below_size (by repeat (first | (with_reducible first | exact HB.out | apply below_alloc | apply pw_below_drewN | apply below_drew1) | exact HB.out))))
                have n3_ := Aside0.mk (below_step (by repeat (first | (with_reducible first | exact HB.out | apply below_alloc | apply pw_below_drewN | apply below_drew1) | exact HB.out)) hb)
                clear HO_5
                clear HO293
                clear HB
                have HO_5 := n0_
                have HO293 := n1_
                have HO296 := n2_
                have HB := n3_
                clear n0_ n1_ n2_ n3_
                clear hb ho54
                refine hK.out _ _ trivial (fun hHeld => ?_)
                clear hK K
                refine norm_ (a' := ?_) ?_ ?_
                rotate_left
                ·show Act.put _ (some 52) _ = _
                 simp only [Act.put, List.setIfInBounds_toArray, List.set_cons_zero, List.set_cons_succ, i64_w, i32_w]
                 rfl
                exact norm_ (by simp only [putAll, Act.put, List.setIfInBounds_toArray, List.set_cons_zero, List.set_cons_succ]) (hCont (v292, v295) _ ⟨(by (with_reducible repeat (first | apply Kd.R_alloc | apply Kd.R_drewN | apply Kd.R_drew)); exact Kd.R_mono HO293.out (fun _ hk => hk.2)), (by (with_reducible repeat (first | apply Kd.R_alloc | apply Kd.R_drewN | apply Kd.R_drew)); exact HO296.out), (by (with_reducible repeat (first | apply Kd.R_alloc | apply Kd.R_drewN | apply Kd.R_drew)); exact Kd.R_mono HO_5.out (fun _ hk => hk.2)), (by repeat (first | (with_reducible first | exact HB.out | apply below_alloc | apply pw_below_drewN | apply below_drew1) | exact HB.out))⟩)
               ·skip
                refine Kd.R_make_step Kd.bool _ 4 (by rfl) (N := 52) rfl 34 _ _ rfl (l0.length : Int) rfl rfl Try.underlying34 (.bool false) 1 info4 rfl (by decide) (by omega) false (ok := fun _ => True) (okp := fun _ => True) rfl (fun _ hk => hk) trivial (of_decide_eq_true (by first | (with_reducible assumption) | assumption)) (Nat.le_trans (Nat.mul_le_mul_right _ (of_decide_eq_true (by first | (with_reducible assumption) | assumption) : (l0.length : Int).toNat ≤ 281474976710656)) (by omega)) (Below.refl _ _) (Nat.le_refl _) ?_
                intro v295 w52 ho53 hb hg_ hnew_
                clear hg_ hnew_
                (first | rw [← Ny294.out] at ho53 | (simp only [Int.reduceToNat] at ho53; rw [← Ny294.out] at ho53))
                have n0_ := Aside0.mk (Kd.R_below (by (with_reducible repeat (first | apply Kd.R_alloc | apply Kd.R_drewN | apply Kd.R_drew)); exact HO_5.out) hb)
                have n1_ := Aside0.mk (Kd.R_lower ho53 (below_size (by repeat (first | (with_reducible first | exact HB.out | apply below_alloc | apply pw_below_drewN | apply below_drew1) | exact HB.out))))
                have n2_ := Aside0.mk (below_step (by repeat (first | (with_reducible first | exact HB.out | apply below_alloc | apply pw_below_drewN | apply below_drew1) | exact HB.out)) hb)
                clear HO_5
                clear HB
                have HO_5 := n0_
                have HO296 := n1_
                have HB := n2_
                clear n0_ n1_ n2_
                clear hb ho53
                refine hK.out _ _ trivial (fun hHeld => ?_)
                clear hK K
                refine norm_ (a' := ?_) ?_ ?_
                rotate_left
                ·show Act.put _ (some 52) _ = _
                 simp only [Act.put, List.setIfInBounds_toArray, List.set_cons_zero, List.set_cons_succ, i64_w, i32_w]
                 rfl
                refine one_ (i := 1) (N := some 49) #[true, true, true, true, true, true, false, false] rfl rfl (one_of HT_.out (by kernel_rfl)) (by decide) (fun K hK => ?_)
                refine goes_ Try.func6 (by kernel_rfl) rfl #[.slice A0 l0.length c0] (by rfl) rfl rfl (by (try simp only [List.map_toArray, List.map_cons, List.map_nil]); first | done | rfl | (simp only [List.length_drop, List.length_take]; rfl)) ?_
                with_reducible refine (tithelaw22_twin.calls _ _ l0 t291 _ ?side1 ?side2 A29.out).mono ?_
                (case side1 => repeat (first | exact (Kd.C_below HR0.out HB.out) | (with_reducible refine Kd.C_alloc ?_ _) | (with_reducible refine Kd.C_drewN ?_ _) | (with_reducible refine Kd.C_drew ?_)))
                (case side2 => exact HC0.out)
                rintro e w54 ⟨v292, rfl, ho0, hb⟩
                refine ⟨_, rfl, ?_⟩
                have n0_ := Aside0.mk (Kd.R_elder' (by (with_reducible repeat (first | apply Kd.R_alloc | apply Kd.R_drewN | apply Kd.R_drew)); exact HO_5.out) (Kd.R_base ho0) hb)
                have n1_ := Aside0.mk (Kd.R_below (by (with_reducible repeat (first | apply Kd.R_alloc | apply Kd.R_drewN | apply Kd.R_drew)); exact HO296.out) hb)
                have n2_ := Aside0.mk (Kd.R_lower (Kd.R_new' ho0 (Kd.R_lt (by (with_reducible repeat (first | apply Kd.R_alloc | apply Kd.R_drewN | apply Kd.R_drew)); exact HO_5.out))) (below_size (by repeat (first | (with_reducible first | exact HB.out | apply below_alloc | apply pw_below_drewN | apply below_drew1) | exact HB.out))))
                have n3_ := Aside0.mk (below_step (by repeat (first | (with_reducible first | exact HB.out | apply below_alloc | apply pw_below_drewN | apply below_drew1) | exact HB.out)) hb)
                clear HO_5
                clear HO296
                clear HB
                have HO_5 := n0_
                have HO296 := n1_
                have HO293 := n2_
                have HB := n3_
                clear n0_ n1_ n2_ n3_
                (try clear hb)
                (try clear hb2)
                (try clear hk)
                (try clear hi)
                (try clear ho0)
                refine hK.out _ _ trivial (fun hHeld => ?_)
                clear hK K
                refine norm_ (a' := ?_) ?_ ?_
                rotate_left
                ·show Act.put _ (some 49) _ = _
                 simp only [Act.put, List.setIfInBounds_toArray, List.set_cons_zero, List.set_cons_succ, i64_w, i32_w]
                 rfl
                exact norm_ (by simp only [putAll, Act.put, List.setIfInBounds_toArray, List.set_cons_zero, List.set_cons_succ]) (hCont (v292, v295) _ ⟨(by (with_reducible repeat (first | apply Kd.R_alloc | apply Kd.R_drewN | apply Kd.R_drew)); exact Kd.R_mono HO293.out (fun _ hk => hk.2)), (by (with_reducible repeat (first | apply Kd.R_alloc | apply Kd.R_drewN | apply Kd.R_drew)); exact HO296.out), (by (with_reducible repeat (first | apply Kd.R_alloc | apply Kd.R_drewN | apply Kd.R_drew)); exact Kd.R_mono HO_5.out (fun _ hk => hk.2)), (by repeat (first | (with_reducible first | exact HB.out | apply below_alloc | apply pw_below_drewN | apply below_drew1) | exact HB.out))⟩)
              rintro ⟨v292, v295⟩ w55 ⟨h0_, h1_, h2_, h3_⟩
              have n0_ : Aside0 (Kd.R k39 39 w55 w.heap.size (fun k_ => some k_ ≠ (v284 : Value).ownBlock) v292 t291) := ⟨h0_⟩
              have n1_ : Aside0 (Kd.R Kd.bool 4 w55 w.heap.size (fun _ => True) v295 y294) := ⟨h1_⟩
              have n2_ : Aside0 (Kd.R k39 39 w55 w.heap.size (fun k_ => some k_ ≠ (v292 : Value).ownBlock) v284 t282) := ⟨h2_⟩
              have n3_ : Aside0 (Below w.heap.size w w55) := ⟨h3_⟩
              clear HO_5
              clear HB
              clear h0_ h1_ h2_ h3_
              have HO293 := n0_
              have HO296 := n1_
              have HO_5 := n2_
              have HB := n3_
              clear n0_ n1_ n2_ n3_
              have hHeld := trivial
              obtain ⟨Ao56, co56, eo56⟩ := Kd.R_slice HO293.out
              (first | subst eo56 | (injection eo56 with f1_ f2_ f3_; have f4_ := f1_.symm; have f5_ := f3_.symm; clear f1_ f2_ f3_; subst f4_; subst f5_))
              obtain ⟨Ao57, co57, eo57⟩ := Kd.R_slice HO296.out
              (first | subst eo57 | (injection eo57 with f1_ f2_ f3_; have f4_ := f1_.symm; have f5_ := f3_.symm; clear f1_ f2_ f3_; subst f4_; subst f5_))
              refine norm_ (a' := ?_) ?_ ?_
              rotate_left
              ·simp only [putAll, Act.put, List.setIfInBounds_toArray, List.set_cons_zero, List.set_cons_succ]
               rfl
              refine one_ (i := 6) (N := some 54) #[true, true, true, true, true, true, true, false] rfl rfl (one_of HT_.out (by kernel_rfl)) (by decide) (fun K hK => ?_)
              refine goes_ Try.func10 (by kernel_rfl) rfl #[.slice Ao56 t291.length co56, .slice Ao57 y294.length co57, .int .i64 0, .slice A1 l1.length c1] (by rfl) rfl rfl (by (try simp only [List.map_toArray, List.map_cons, List.map_nil]); first | done | rfl | (simp only [List.length_drop, List.length_take]; rfl)) ?_
              with_reducible refine (tithelaw22_permuted.calls kj8 (fun k_ => some k_ = (.slice Ao56 t291.length co56 : Value).ownBlock) (.slice Ao56 t291.length co56) t291 (fun k_ => some k_ = (.slice Ao57 y294.length co57 : Value).ownBlock) (.slice Ao57 y294.length co57) y294 0 _ _ l1 true t298 t299 w _ ?side1 ?side2 ?side3 ?side4 ?side5 A32.out).mono ?_
              (case side1 => repeat (first | (with_reducible first | exact HB.out | apply below_alloc | apply pw_below_drewN | apply below_drew1) | exact HB.out))
              (case side2 => exact Kd.R_tight rfl HO293.out)
              (case side3 => exact Kd.R_tight rfl HO296.out)
              (case side4 => exact Kd.C_kept_came k48_heap HR1.out (by repeat (first | (with_reducible first | exact HB.out | apply below_alloc | apply pw_below_drewN | apply below_drew1) | exact HB.out)) (fun k_ hs_ => Or.elim hs_ (fun e_ => (fun e_ => Kd.R_base HO293.out k_ e_.symm) e_) (fun e_ => (fun e_ => Kd.R_base HO296.out k_ e_.symm) e_)))
              (case side5 => exact HC1.out)
              rintro e w58 ⟨rfl, hy0, hy1, hb, hkp⟩
              refine ⟨_, rfl, ?_⟩
              have n0_ := Aside0.mk (Kd.R_mono (ok' := fun k_ => some k_ ≠ (.slice Ao56 t291.length co56 : Value).ownBlock) (Kd.R_keptB ((Kd.R_apart' HO_5.out (Kd.R_typed HO296.out) (by decide))) hkp (fun k_ hk_ hs_ => Or.elim hs_ (fun e_ => (hk_.1) e_) (fun e_ => (hk_.2) e_))) (fun k_ hk_ => hk_.1.1))
              have n1_ := Aside0.mk (Kd.R_reok rfl hy0 (fun k_ e_ => HO293.out.1 k_ e_))
              have n2_ := Aside0.mk (Kd.R_reok rfl hy1 (fun k_ e_ => HO296.out.1 k_ e_))
              have n3_ := Aside0.mk (hb)
              clear HO_5
              clear HO293
              clear HO296
              clear HB
              have HO_5 := n0_
              have HO293 := n1_
              have HO296 := n2_
              have HB := n3_
              clear n0_ n1_ n2_ n3_
              (try clear hb)
              (try clear hkp)
              (try clear hy0)
              (try clear hy1)
              refine hK.out _ _ trivial (fun hHeld => ?_)
              clear hK K
              refine norm_ (a' := ?_) ?_ ?_
              rotate_left
              ·show Act.put _ (some 54) _ = _
               simp only [Act.put, List.setIfInBounds_toArray, List.set_cons_zero, List.set_cons_succ, i64_w, i32_w]
               rfl
              refine pure_ (i := 7) (N := some 7) (v := ?_) (a' := ?_) #[true, true, true, true, true, true, true, true] rfl rfl (any_of HT_.out (by kernel_rfl)) (fun _ _ _ h => h) (Or.inl ⟨by rfl, ?_⟩) ?_ ?_
              rotate_left
              ·intro w'
               go_simp
               with_reducible rfl
              rotate_left
              ·simp only [Act.put, List.setIfInBounds_toArray, List.set_cons_zero, List.set_cons_succ, i64_w, i32_w]
               rfl
              refine done_ (done_of HT_.out (by kernel_rfl)) ?_
              go_wp2_with (first | ((with_reducible refine gate_callee (f := 6) rfl ?_); refine goesL_ (some 61) rfl rfl Try.func6 (by kernel_rfl) rfl #[.slice A0 l0.length c0] rfl (by (try simp only [List.map_toArray, List.map_cons, List.map_nil]); first | done | rfl | (simp only [List.length_drop, List.length_take]; rfl)) ?_; (with_reducible refine (tithelaw22_twin.calls _ _ l0 t301 _ ?side1 ?side2 A42.out).mono ?_); (case side1 => repeat (first | exact (Kd.C_below HR0.out HB.out) | (with_reducible refine Kd.C_alloc ?_ _) | (with_reducible refine Kd.C_drewN ?_ _) | (with_reducible refine Kd.C_drew ?_))); (case side2 => exact HC0.out); rintro e w59 ⟨v302, rfl, ho0, hb⟩; refine ⟨_, rfl, ?_⟩; have n0_ := Aside0.mk (Kd.R_elder' (by (with_reducible repeat (first | apply Kd.R_alloc | apply Kd.R_drewN | apply Kd.R_drew)); exact HO_5.out) (Kd.R_base ho0) hb); have n1_ := Aside0.mk (Kd.R_elder' (by (with_reducible repeat (first | apply Kd.R_alloc | apply Kd.R_drewN | apply Kd.R_drew)); exact HO293.out) (Kd.R_base ho0) hb); have n2_ := Aside0.mk (Kd.R_below (by (with_reducible repeat (first | apply Kd.R_alloc | apply Kd.R_drewN | apply Kd.R_drew)); exact HO296.out) hb); have n3_ := Aside0.mk (Kd.R_lower (Kd.R_new' (Kd.R_new' ho0 (Kd.R_lt (by (with_reducible repeat (first | apply Kd.R_alloc | apply Kd.R_drewN | apply Kd.R_drew)); exact HO_5.out))) (Kd.R_lt (by (with_reducible repeat (first | apply Kd.R_alloc | apply Kd.R_drewN | apply Kd.R_drew)); exact HO293.out))) (below_size (by repeat (first | (with_reducible first | exact HB.out | apply below_alloc | apply pw_below_drewN | apply below_drew1) | exact HB.out)))); have n4_ := Aside0.mk (below_step (by repeat (first | (with_reducible first | exact HB.out | apply below_alloc | apply pw_below_drewN | apply below_drew1) | exact HB.out)) hb); clear HO_5; clear HO293; clear HO296; clear HB; have HO_5 := n0_; have HO293 := n1_; have HO296 := n2_; have HO303 := n3_; have HB := n4_; clear n0_ n1_ n2_ n3_ n4_; (try clear hb); (try clear hb2); (try clear hk); (try clear hi); (try clear ho0); obtain ⟨Ao60, co60, eo60⟩ := Kd.R_slice HO303.out; subst eo60) | ((with_reducible refine gate_callee (f := 11) rfl ?_); refine goesL_ (some 62) rfl rfl Try.func11 (by kernel_rfl) rfl #[.slice Ao60 t301.length co60] rfl (by (try simp only [List.map_toArray, List.map_cons, List.map_nil]); first | done | rfl | (simp only [List.length_drop, List.length_take]; rfl)) ?_; (with_reducible refine (demand_Deadline.calls kj8 _ _ t301 t304 none _ ?side1 ?side2 A43.out).mono ?_); (case side1 => repeat (first | exact (Kd.R_reads' HO303.out).2.2 | (with_reducible refine Kd.C_alloc ?_ _) | (with_reducible refine Kd.C_drewN ?_ _) | (with_reducible refine Kd.C_drew ?_))); (case side2 => exact (Kd.R_reads' HO303.out).2.1); rintro e w61 ⟨v306, rfl, ho0, hb⟩; refine ⟨_, rfl, ?_⟩; have n0_ := Aside0.mk (Kd.R_elder' (by (with_reducible repeat (first | apply Kd.R_alloc | apply Kd.R_drewN | apply Kd.R_drew)); exact HO_5.out) (Kd.R_base ho0) hb); have n1_ := Aside0.mk (Kd.R_elder' (by (with_reducible repeat (first | apply Kd.R_alloc | apply Kd.R_drewN | apply Kd.R_drew)); exact HO293.out) (Kd.R_base ho0) hb); have n2_ := Aside0.mk (Kd.R_below (by (with_reducible repeat (first | apply Kd.R_alloc | apply Kd.R_drewN | apply Kd.R_drew)); exact HO296.out) hb); have n3_ := Aside0.mk (Kd.R_elder' (by (with_reducible repeat (first | apply Kd.R_alloc | apply Kd.R_drewN | apply Kd.R_drew)); exact HO303.out) (Kd.R_base ho0) hb); have n4_ := Aside0.mk (Kd.R_lower (Kd.R_new' (Kd.R_new' (Kd.R_new' ho0 (Kd.R_lt (by (with_reducible repeat (first | apply Kd.R_alloc | apply Kd.R_drewN | apply Kd.R_drew)); exact HO_5.out))) (Kd.R_lt (by (with_reducible repeat (first | apply Kd.R_alloc | apply Kd.R_drewN | apply Kd.R_drew)); exact HO293.out))) (Kd.R_lt (by (with_reducible repeat (first | apply Kd.R_alloc | apply Kd.R_drewN | apply Kd.R_drew)); exact HO303.out))) (below_size (by repeat (first | (with_reducible first | exact HB.out | apply below_alloc | apply pw_below_drewN | apply below_drew1) | exact HB.out)))); have n5_ := Aside0.mk (below_step (by repeat (first | (with_reducible first | exact HB.out | apply below_alloc | apply pw_below_drewN | apply below_drew1) | exact HB.out)) hb); clear HO_5; clear HO293; clear HO296; clear HO303; clear HB; have HO_5 := n0_; have HO293 := n1_; have HO296 := n2_; have HO303 := n3_; have HO307 := n4_; have HB := n5_; clear n0_ n1_ n2_ n3_ n4_ n5_; (try clear hb); (try clear hb2); (try clear hk); (try clear hi); (try clear ho0); (try simp only [errW_none, errW_some]); obtain ⟨Ao62, co62, eo62⟩ := Kd.R_slice HO_5.out; subst eo62) | (go_at_call 13; (with_reducible refine (titheref22_Fits.calls kj8 _ _ t282 _ _ l1 t315 _ ?side1 ?side2 ?side3 ?side4 A46.out).mono ?_); (case side1 => repeat (first | exact (Kd.R_reads' HO_5.out).2.2 | (with_reducible refine Kd.C_alloc ?_ _) | (with_reducible refine Kd.C_drewN ?_ _) | (with_reducible refine Kd.C_drew ?_))); (case side2 => exact (Kd.R_reads' HO_5.out).2.1); (case side3 => repeat (first | exact (Kd.C_below HR1.out HB.out) | (with_reducible refine Kd.C_alloc ?_ _) | (with_reducible refine Kd.C_drewN ?_ _) | (with_reducible refine Kd.C_drew ?_))); (case side4 => exact HC1.out); rintro e w63 ⟨rfl, hb⟩; have n0_ := Aside0.mk (Kd.R_below (by (with_reducible repeat (first | apply Kd.R_alloc | apply Kd.R_drewN | apply Kd.R_drew)); exact HO_5.out) hb); have n1_ := Aside0.mk (Kd.R_below (by (with_reducible repeat (first | apply Kd.R_alloc | apply Kd.R_drewN | apply Kd.R_drew)); exact HO293.out) hb); have n2_ := Aside0.mk (Kd.R_below (by (with_reducible repeat (first | apply Kd.R_alloc | apply Kd.R_drewN | apply Kd.R_drew)); exact HO296.out) hb); have n3_ := Aside0.mk (Kd.R_below (by (with_reducible repeat (first | apply Kd.R_alloc | apply Kd.R_drewN | apply Kd.R_drew)); exact HO303.out) hb); have n4_ := Aside0.mk (Kd.R_below (by (with_reducible repeat (first | apply Kd.R_alloc | apply Kd.R_drewN | apply Kd.R_drew)); exact HO307.out) hb); have n5_ := Aside0.mk (below_step (by repeat (first | (with_reducible first | exact HB.out | apply below_alloc | apply pw_below_drewN | apply below_drew1) | exact HB.out)) hb); clear HO_5; clear HO293; clear HO296; clear HO303; clear HO307; clear HB; have HO_5 := n0_; have HO293 := n1_; have HO296 := n2_; have HO303 := n3_; have HO307 := n4_; have HB := n5_; clear n0_ n1_ n2_ n3_ n4_ n5_; (try clear hb); (try clear hb2); (try clear hk); (try clear hi)) | (go_at_call 7; (with_reducible refine (tithelaw22_row.calls _ _ l1 t317 _ ?side1 ?side2 A48.out).mono ?_); (case side1 => repeat (first | exact (Kd.C_below HR1.out HB.out) | (with_reducible refine Kd.C_alloc ?_ _) | (with_reducible refine Kd.C_drewN ?_ _) | (with_reducible refine Kd.C_drew ?_))); (case side2 => exact HC1.out); rintro e w64 ⟨v318, rfl, ho0, hb⟩; have n0_ := Aside0.mk (Kd.R_below (by (with_reducible repeat (first | apply Kd.R_alloc | apply Kd.R_drewN | apply Kd.R_drew)); exact HO_5.out) hb); have n1_ := Aside0.mk (Kd.R_below (by (with_reducible repeat (first | apply Kd.R_alloc | apply Kd.R_drewN | apply Kd.R_drew)); exact HO293.out) hb); have n2_ := Aside0.mk (Kd.R_below (by (with_reducible repeat (first | apply Kd.R_alloc | apply Kd.R_drewN | apply Kd.R_drew)); exact HO296.out) hb); have n3_ := Aside0.mk (Kd.R_below (by (with_reducible repeat (first | apply Kd.R_alloc | apply Kd.R_drewN | apply Kd.R_drew)); exact HO303.out) hb); have n4_ := Aside0.mk (Kd.R_below (by (with_reducible repeat (first | apply Kd.R_alloc | apply Kd.R_drewN | apply Kd.R_drew)); exact HO307.out) hb); have n5_ := Aside0.mk (Kd.R_lower ho0 (below_size (by repeat (first | (with_reducible first | exact HB.out | apply below_alloc | apply pw_below_drewN | apply below_drew1) | exact HB.out)))); have n6_ := Aside0.mk (below_step (by repeat (first | (with_reducible first | exact HB.out | apply below_alloc | apply pw_below_drewN | apply below_drew1) | exact HB.out)) hb); clear HO_5; clear HO293; clear HO296; clear HO303; clear HO307; clear HB; have HO_5 := n0_; have HO293 := n1_; have HO296 := n2_; have HO303 := n3_; have HO307 := n4_; have HO319 := n5_; have HB := n6_; clear n0_ n1_ n2_ n3_ n4_ n5_ n6_; (try clear hb); (try clear hb2); (try clear hk); (try clear hi); (try clear ho0); obtain ⟨Ao65, co65, eo65⟩ := Kd.R_slice HO307.out; subst eo65; obtain ⟨Ao66, co66, eo66⟩ := Kd.R_slice HO319.out; subst eo66) | (go_at_call 12; (with_reducible refine (response_Fits.calls kj8 _ _ t304 _ _ t317 none _ ?side1 ?side2 ?side3 ?side4 A49.out).mono ?_); (case side1 => repeat (first | exact (Kd.R_reads' HO307.out).2.2 | (with_reducible refine Kd.C_alloc ?_ _) | (with_reducible refine Kd.C_drewN ?_ _) | (with_reducible refine Kd.C_drew ?_))); (case side2 => exact (Kd.R_reads' HO307.out).2.1); (case side3 => repeat (first | exact (Kd.R_reads' HO319.out).2.2 | (with_reducible refine Kd.C_alloc ?_ _) | (with_reducible refine Kd.C_drewN ?_ _) | (with_reducible refine Kd.C_drew ?_))); (case side4 => exact (Kd.R_reads' HO319.out).2.1); rintro e w67 ⟨rfl, hb⟩; have n0_ := Aside0.mk (Kd.R_below (by (with_reducible repeat (first | apply Kd.R_alloc | apply Kd.R_drewN | apply Kd.R_drew)); exact HO_5.out) hb); have n1_ := Aside0.mk (Kd.R_below (by (with_reducible repeat (first | apply Kd.R_alloc | apply Kd.R_drewN | apply Kd.R_drew)); exact HO293.out) hb); have n2_ := Aside0.mk (Kd.R_below (by (with_reducible repeat (first | apply Kd.R_alloc | apply Kd.R_drewN | apply Kd.R_drew)); exact HO296.out) hb); have n3_ := Aside0.mk (Kd.R_below (by (with_reducible repeat (first | apply Kd.R_alloc | apply Kd.R_drewN | apply Kd.R_drew)); exact HO303.out) hb); have n4_ := Aside0.mk (Kd.R_below (by (with_reducible repeat (first | apply Kd.R_alloc | apply Kd.R_drewN | apply Kd.R_drew)); exact HO307.out) hb); have n5_ := Aside0.mk (Kd.R_below (by (with_reducible repeat (first | apply Kd.R_alloc | apply Kd.R_drewN | apply Kd.R_drew)); exact HO319.out) hb); have n6_ := Aside0.mk (below_step (by repeat (first | (with_reducible first | exact HB.out | apply below_alloc | apply pw_below_drewN | apply below_drew1) | exact HB.out)) hb); clear HO_5; clear HO293; clear HO296; clear HO303; clear HO307; clear HO319; clear HB; have HO_5 := n0_; have HO293 := n1_; have HO296 := n2_; have HO303 := n3_; have HO307 := n4_; have HO319 := n5_; have HB := n6_; clear n0_ n1_ n2_ n3_ n4_ n5_ n6_; (try clear hb); (try clear hb2); (try clear hk); (try clear hi); (try simp only [errW_none, errW_some])) | (go_at_call 4; (with_reducible refine (tithelaw22_works.calls kj8  t322 _ A50.out).mono ?_); rintro e w68 ⟨rfl, hb⟩; have n0_ := Aside0.mk (Kd.R_below (by (with_reducible repeat (first | apply Kd.R_alloc | apply Kd.R_drewN | apply Kd.R_drew)); exact HO_5.out) hb); have n1_ := Aside0.mk (Kd.R_below (by (with_reducible repeat (first | apply Kd.R_alloc | apply Kd.R_drewN | apply Kd.R_drew)); exact HO293.out) hb); have n2_ := Aside0.mk (Kd.R_below (by (with_reducible repeat (first | apply Kd.R_alloc | apply Kd.R_drewN | apply Kd.R_drew)); exact HO296.out) hb); have n3_ := Aside0.mk (Kd.R_below (by (with_reducible repeat (first | apply Kd.R_alloc | apply Kd.R_drewN | apply Kd.R_drew)); exact HO303.out) hb); have n4_ := Aside0.mk (Kd.R_below (by (with_reducible repeat (first | apply Kd.R_alloc | apply Kd.R_drewN | apply Kd.R_drew)); exact HO307.out) hb); have n5_ := Aside0.mk (Kd.R_below (by (with_reducible repeat (first | apply Kd.R_alloc | apply Kd.R_drewN | apply Kd.R_drew)); exact HO319.out) hb); have n6_ := Aside0.mk (below_step (by repeat (first | (with_reducible first | exact HB.out | apply below_alloc | apply pw_below_drewN | apply below_drew1) | exact HB.out)) hb); clear HO_5; clear HO293; clear HO296; clear HO303; clear HO307; clear HO319; clear HB; have HO_5 := n0_; have HO293 := n1_; have HO296 := n2_; have HO303 := n3_; have HO307 := n4_; have HO319 := n5_; have HB := n6_; clear n0_ n1_ n2_ n3_ n4_ n5_ n6_; (try clear hb); (try clear hb2); (try clear hk); (try clear hi)))
              have HLC := Aside0.mk (show CellsAt (w61.alloc (.cells #[Value.bool false, .bool false, .bool false, .bool false, .bool false, .bool false, .bool false, .bool false] 37)) w61.heap.size 8 37 (hasV (us t282 0)) from ⟨_, blk_new w61 _, rfl, fun i hi => by
                have e : i = 0 ∨ i = 1 ∨ i = 2 ∨ i = 3 ∨ i = 4 ∨ i = 5 ∨ i = 6 ∨ i = 7 := by omega
                rcases e with e | e | e | e | e | e | e | e <;> subst e <;> rfl⟩)
              have HBL := Aside0.mk (show Below w61.heap.size w61 (w61.alloc (.cells #[Value.bool false, .bool false, .bool false, .bool false, .bool false, .bool false, .bool false, .bool false] 37)) from (Below.refl _ _).alloc (Nat.le_refl _) _)
              generalize w61.alloc (.cells #[Value.bool false, .bool false, .bool false, .bool false, .bool false, .bool false, .bool false, .bool false] 37) = wn at HLC HBL ⊢
              obtain ⟨hb0, hhb⟩ : ∃ b, b = w61.heap.size := ⟨_, rfl⟩
              rw [← hhb] at HLC
              rw [← hhb]
              have HHB := Aside0.mk hhb
              have hu39 := Try.underlying39
              clear hhb
              go_loopg [11] l0.length (fun gg v11 wr => ∃ kk : Nat, kk ≤ l0.length ∧ v11 = .int .i64 (kk : Int) ∧ l0.length - kk ≤ gg ∧ Aside0 (CellsAt wr hb0 8 37 (hasV (us t282 kk))) ∧ Aside0 (Below w61.heap.size w61 wr))
              case atStart => exact ⟨0, by omega, rfl, by omega, HLC, HBL⟩
              case round =>
                clear HLC HBL
                obtain ⟨kk, hkk, rfl, hgg, HLC, HBL⟩ := hrel
                by_cases hlt : kk < l0.length
                · have hltz : (kk : Int) < (l0.length : Int) := by omega
                  have hltd : decide ((kk : Int) < (l0.length : Int)) = true := decide_eq_true hltz
                  have hltz2 : (kk : Int) < (t282.length : Int) := by rw [HLE.out]; exact hltz
                  have hltd3 : decide ((kk : Int) < (t282.length : Int)) = true := decide_eq_true hltz2
                  have hk0 : 0 ≤ (kk : Int) := by omega
                  obtain ⟨⟨hp0, hp1⟩, he0, he1, he2, hpd⟩ := okA_at HOK.out hlt
                  obtain ⟨pn, hpn⟩ : ∃ pn : Nat, (rd_T39 t282 (kk : Int)).f3 = (pn : Int) := ⟨_, (Int.toNat_of_nonneg hp0).symm⟩
                  have hn5 : l0.length ≤ 5 := HN5.out
                  have hp8 : pn < 8 := by omega
                  have hpl : pn < l0.length := by omega
                  have HUS := Aside0.mk (us_not (a := t282) (p := pn) (i := kk) (fun j hj e => hpd j hj (by have h3 := (okA_at HOK.out (show j < l0.length by omega)).1.1; omega)))
                  have HUN := Aside0.mk (show us t282 (kk + 1) = setB (us t282 kk) pn from by show setB (us t282 kk) (rd_T39 t282 (kk : Int)).f3.toNat = _; rw [hpn]; rfl)
                  have HOW := Aside0.mk (Kd.R_below HO_5.out HBL.out)
                  have HBW := Aside0.mk (below_step HB.out HBL.out)
                  obtain ⟨ad, e1, x0, x1, x2, x3⟩ := at_T39 (Kd.R_reads' HOW.out).2.2 (kk : Int) hk0 hltz2
                  cases e1
                  obtain ⟨ad2, e1, y0, y1, y2, y3⟩ := at_T39 (Kd.C_below HR0.out HBW.out) (kk : Int) hk0 hltz
                  cases e1
                  rw [he0] at x0
                  rw [he1] at x1
                  rw [he2] at x2
                  rw [hpn] at x3
                  simp only [Int.toNat_natCast] at x0 x1 x2 x3 y0 y1 y2 y3
                  generalize (rd_T39 l0 (kk : Int)).f0 = z0 at x0 y0
                  generalize (rd_T39 l0 (kk : Int)).f1 = z1 at x1 y1
                  generalize (rd_T39 l0 (kk : Int)).f2 = z2 at x2 y2
                  have hp8z : (pn : Int) < 8 := by omega
                  have hp80 : 0 ≤ (pn : Int) := by omega
                  have hp2 : decide ((pn : Int) < 0) = false := decide_eq_false (by omega)
                  have hp3 : decide ((pn : Int) ≥ (l0.length : Int)) = false := decide_eq_false (by omega)
                  have hc1 := (HLC.out.rd hp8).1
                  have hc2 := (HLC.out.rd hp8).2
                  unfold hasV at hc1
                  rw [HUS.out] at hc1
                  have hl2 := HLC.out.set hp8 (.bool true)
                  rw [hasV_set, ← HUN.out] at hl2
                  have HL2 := Aside0.mk hl2
                  have HB2 := Aside0.mk (below_set (j := pn) (v := .bool true) HBL.out (Nat.le_of_eq HHB.out.symm))
                  clear hl2 he0 he1 he2 hpd hpn hp0 hp1 HOW HBW
                  go_upto_region 17 with (fail)
                  skip
                  go_quiet (fail)
                  go_wp2_with (fail)
                  go_roundg (l0.length - (kk + 1))
                  case measure => omega
                  case rel => exact ⟨kk + 1, by omega, by first | rfl | (congr 1; unfold wrap64; omega) | (congr 1; omega), by omega, HL2, ⟨by first | exact HB2.out | exact below_set (j := pn) (v := .bool true) (by repeat (first | (with_reducible first | exact HBL.out | apply pw_below_drewN) | exact HBL.out)) (Nat.le_of_eq HHB.out.symm)⟩⟩
                · obtain rfl : kk = l0.length := by omega
                  have hltd : decide ((l0.length : Int) < (l0.length : Int)) = false := decide_eq_false (by omega)
                  have hltd2 : decide ((l0.length : Int) < (t282.length : Int)) = false := decide_eq_false (by rw [HLE.out]; omega)
                  have hltn : ¬ (l0.length : Int) < (t282.length : Int) := by rw [HLE.out]; omega
                  have hltn2 : decide (l0.length < t282.length) = false := decide_eq_false (by rw [HLE.out]; omega)
                  have hltn3 : ¬ l0.length < t282.length := by rw [HLE.out]; omega
                  have n_HO_5 := Aside0.mk (Kd.R_below HO_5.out HBL.out)
                  have n_HO293 := Aside0.mk (Kd.R_below HO293.out HBL.out)
                  have n_HO296 := Aside0.mk (Kd.R_below HO296.out HBL.out)
                  have n_HO303 := Aside0.mk (Kd.R_below HO303.out HBL.out)
                  have n_HO307 := Aside0.mk (Kd.R_below HO307.out HBL.out)
                  have n_HB := Aside0.mk (below_step HB.out HBL.out)
                  clear HO_5 HO293 HO296 HO303 HO307 HB
                  have HO_5 := n_HO_5
                  have HO293 := n_HO293
                  have HO296 := n_HO296
                  have HO303 := n_HO303
                  have HO307 := n_HO307
                  have HB := n_HB
                  clear n_HO_5 n_HO293 n_HO296 n_HO303 n_HO307 n_HB
                  go_upto_region 20 with (fail)
                  go_wp2_with (first | ((with_reducible refine gate_callee (f := 6) rfl ?_); refine goesL_ (some 61) rfl rfl Try.func6 (by kernel_rfl) rfl #[.slice A0 l0.length c0] rfl (by (try simp only [List.map_toArray, List.map_cons, List.map_nil]); first | done | rfl | (simp only [List.length_drop, List.length_take]; rfl)) ?_; (with_reducible refine (tithelaw22_twin.calls _ _ l0 t301 _ ?side1 ?side2 A42.out).mono ?_); (case side1 => repeat (first | exact (Kd.C_below HR0.out HB.out) | (with_reducible refine Kd.C_alloc ?_ _) | (with_reducible refine Kd.C_drewN ?_ _) | (with_reducible refine Kd.C_drew ?_))); (case side2 => exact HC0.out); rintro e w59 ⟨v302, rfl, ho0, hb⟩; refine ⟨_, rfl, ?_⟩; have n0_ := Aside0.mk (Kd.R_elder' (by (with_reducible repeat (first | apply Kd.R_alloc | apply Kd.R_drewN | apply Kd.R_drew)); exact HO_5.out) (Kd.R_base ho0) hb); have n1_ := Aside0.mk (Kd.R_elder' (by (with_reducible repeat (first | apply Kd.R_alloc | apply Kd.R_drewN | apply Kd.R_drew)); exact HO293.out) (Kd.R_base ho0) hb); have n2_ := Aside0.mk (Kd.R_below (by (with_reducible repeat (first | apply Kd.R_alloc | apply Kd.R_drewN | apply Kd.R_drew)); exact HO296.out) hb); have n3_ := Aside0.mk (Kd.R_lower (Kd.R_new' (Kd.R_new' ho0 (Kd.R_lt (by (with_reducible repeat (first | apply Kd.R_alloc | apply Kd.R_drewN | apply Kd.R_drew)); exact HO_5.out))) (Kd.R_lt (by (with_reducible repeat (first | apply Kd.R_alloc | apply Kd.R_drewN | apply Kd.R_drew)); exact HO293.out))) (below_size (by repeat (first | (with_reducible first | exact HB.out | apply below_alloc | apply pw_below_drewN | apply below_drew1) | exact HB.out)))); have n4_ := Aside0.mk (below_step (by repeat (first | (with_reducible first | exact HB.out | apply below_alloc | apply pw_below_drewN | apply below_drew1) | exact HB.out)) hb); clear HO_5; clear HO293; clear HO296; clear HB; have HO_5 := n0_; have HO293 := n1_; have HO296 := n2_; have HO303 := n3_; have HB := n4_; clear n0_ n1_ n2_ n3_ n4_; (try clear hb); (try clear hb2); (try clear hk); (try clear hi); (try clear ho0); obtain ⟨Ao60, co60, eo60⟩ := Kd.R_slice HO303.out; subst eo60) | ((with_reducible refine gate_callee (f := 11) rfl ?_); refine goesL_ (some 62) rfl rfl Try.func11 (by kernel_rfl) rfl #[.slice Ao60 t301.length co60] rfl (by (try simp only [List.map_toArray, List.map_cons, List.map_nil]); first | done | rfl | (simp only [List.length_drop, List.length_take]; rfl)) ?_; (with_reducible refine (demand_Deadline.calls kj8 _ _ t301 t304 none _ ?side1 ?side2 A43.out).mono ?_); (case side1 => repeat (first | exact (Kd.R_reads' HO303.out).2.2 | (with_reducible refine Kd.C_alloc ?_ _) | (with_reducible refine Kd.C_drewN ?_ _) | (with_reducible refine Kd.C_drew ?_))); (case side2 => exact (Kd.R_reads' HO303.out).2.1); rintro e w61 ⟨v306, rfl, ho0, hb⟩; refine ⟨_, rfl, ?_⟩; have n0_ := Aside0.mk (Kd.R_elder' (by (with_reducible repeat (first | apply Kd.R_alloc | apply Kd.R_drewN | apply Kd.R_drew)); exact HO_5.out) (Kd.R_base ho0) hb); have n1_ := Aside0.mk (Kd.R_elder' (by (with_reducible repeat (first | apply Kd.R_alloc | apply Kd.R_drewN | apply Kd.R_drew)); exact HO293.out) (Kd.R_base ho0) hb); have n2_ := Aside0.mk (Kd.R_below (by (with_reducible repeat (first | apply Kd.R_alloc | apply Kd.R_drewN | apply Kd.R_drew)); exact HO296.out) hb); have n3_ := Aside0.mk (Kd.R_elder' (by (with_reducible repeat (first | apply Kd.R_alloc | apply Kd.R_drewN | apply Kd.R_drew)); exact HO303.out) (Kd.R_base ho0) hb); have n4_ := Aside0.mk (Kd.R_lower (Kd.R_new' (Kd.R_new' (Kd.R_new' ho0 (Kd.R_lt (by (with_reducible repeat (first | apply Kd.R_alloc | apply Kd.R_drewN | apply Kd.R_drew)); exact HO_5.out))) (Kd.R_lt (by (with_reducible repeat (first | apply Kd.R_alloc | apply Kd.R_drewN | apply Kd.R_drew)); exact HO293.out))) (Kd.R_lt (by (with_reducible repeat (first | apply Kd.R_alloc | apply Kd.R_drewN | apply Kd.R_drew)); exact HO303.out))) (below_size (by repeat (first | (with_reducible first | exact HB.out | apply below_alloc | apply pw_below_drewN | apply below_drew1) | exact HB.out)))); have n5_ := Aside0.mk (below_step (by repeat (first | (with_reducible first | exact HB.out | apply below_alloc | apply pw_below_drewN | apply below_drew1) | exact HB.out)) hb); clear HO_5; clear HO293; clear HO296; clear HO303; clear HB; have HO_5 := n0_; have HO293 := n1_; have HO296 := n2_; have HO303 := n3_; have HO307 := n4_; have HB := n5_; clear n0_ n1_ n2_ n3_ n4_ n5_; (try clear hb); (try clear hb2); (try clear hk); (try clear hi); (try clear ho0); (try simp only [errW_none, errW_some]); obtain ⟨Ao62, co62, eo62⟩ := Kd.R_slice HO_5.out; subst eo62) | (go_at_call 13; (with_reducible refine (titheref22_Fits.calls kj8 _ _ t282 _ _ l1 t315 _ ?side1 ?side2 ?side3 ?side4 A46.out).mono ?_); (case side1 => repeat (first | exact (Kd.R_reads' HO_5.out).2.2 | (with_reducible refine Kd.C_alloc ?_ _) | (with_reducible refine Kd.C_drewN ?_ _) | (with_reducible refine Kd.C_drew ?_))); (case side2 => exact (Kd.R_reads' HO_5.out).2.1); (case side3 => repeat (first | exact (Kd.C_below HR1.out HB.out) | (with_reducible refine Kd.C_alloc ?_ _) | (with_reducible refine Kd.C_drewN ?_ _) | (with_reducible refine Kd.C_drew ?_))); (case side4 => exact HC1.out); rintro e w63 ⟨rfl, hb⟩; have n0_ := Aside0.mk (Kd.R_below (by (with_reducible repeat (first | apply Kd.R_alloc | apply Kd.R_drewN | apply Kd.R_drew)); exact HO_5.out) hb); have n1_ := Aside0.mk (Kd.R_below (by (with_reducible repeat (first | apply Kd.R_alloc | apply Kd.R_drewN | apply Kd.R_drew)); exact HO293.out) hb); have n2_ := Aside0.mk (Kd.R_below (by (with_reducible repeat (first | apply Kd.R_alloc | apply Kd.R_drewN | apply Kd.R_drew)); exact HO296.out) hb); have n3_ := Aside0.mk (Kd.R_below (by (with_reducible repeat (first | apply Kd.R_alloc | apply Kd.R_drewN | apply Kd.R_drew)); exact HO303.out) hb); have n4_ := Aside0.mk (Kd.R_below (by (with_reducible repeat (first | apply Kd.R_alloc | apply Kd.R_drewN | apply Kd.R_drew)); exact HO307.out) hb); have n5_ := Aside0.mk (below_step (by repeat (first | (with_reducible first | exact HB.out | apply below_alloc | apply pw_below_drewN | apply below_drew1) | exact HB.out)) hb); clear HO_5; clear HO293; clear HO296; clear HO303; clear HO307; clear HB; have HO_5 := n0_; have HO293 := n1_; have HO296 := n2_; have HO303 := n3_; have HO307 := n4_; have HB := n5_; clear n0_ n1_ n2_ n3_ n4_ n5_; (try clear hb); (try clear hb2); (try clear hk); (try clear hi)) | (go_at_call 7; (with_reducible refine (tithelaw22_row.calls _ _ l1 t317 _ ?side1 ?side2 A48.out).mono ?_); (case side1 => repeat (first | exact (Kd.C_below HR1.out HB.out) | (with_reducible refine Kd.C_alloc ?_ _) | (with_reducible refine Kd.C_drewN ?_ _) | (with_reducible refine Kd.C_drew ?_))); (case side2 => exact HC1.out); rintro e w64 ⟨v318, rfl, ho0, hb⟩; have n0_ := Aside0.mk (Kd.R_below (by (with_reducible repeat (first | apply Kd.R_alloc | apply Kd.R_drewN | apply Kd.R_drew)); exact HO_5.out) hb); have n1_ := Aside0.mk (Kd.R_below (by (with_reducible repeat (first | apply Kd.R_alloc | apply Kd.R_drewN | apply Kd.R_drew)); exact HO293.out) hb); have n2_ := Aside0.mk (Kd.R_below (by (with_reducible repeat (first | apply Kd.R_alloc | apply Kd.R_drewN | apply Kd.R_drew)); exact HO296.out) hb); have n3_ := Aside0.mk (Kd.R_below (by (with_reducible repeat (first | apply Kd.R_alloc | apply Kd.R_drewN | apply Kd.R_drew)); exact HO303.out) hb); have n4_ := Aside0.mk (Kd.R_below (by (with_reducible repeat (first | apply Kd.R_alloc | apply Kd.R_drewN | apply Kd.R_drew)); exact HO307.out) hb); have n5_ := Aside0.mk (Kd.R_lower ho0 (below_size (by repeat (first | (with_reducible first | exact HB.out | apply below_alloc | apply pw_below_drewN | apply below_drew1) | exact HB.out)))); have n6_ := Aside0.mk (below_step (by repeat (first | (with_reducible first | exact HB.out | apply below_alloc | apply pw_below_drewN | apply below_drew1) | exact HB.out)) hb); clear HO_5; clear HO293; clear HO296; clear HO303; clear HO307; clear HB; have HO_5 := n0_; have HO293 := n1_; have HO296 := n2_; have HO303 := n3_; have HO307 := n4_; have HO319 := n5_; have HB := n6_; clear n0_ n1_ n2_ n3_ n4_ n5_ n6_; (try clear hb); (try clear hb2); (try clear hk); (try clear hi); (try clear ho0); obtain ⟨Ao65, co65, eo65⟩ := Kd.R_slice HO307.out; subst eo65; obtain ⟨Ao66, co66, eo66⟩ := Kd.R_slice HO319.out; subst eo66) | (go_at_call 12; (with_reducible refine (response_Fits.calls kj8 _ _ t304 _ _ t317 none _ ?side1 ?side2 ?side3 ?side4 A49.out).mono ?_); (case side1 => repeat (first | exact (Kd.R_reads' HO307.out).2.2 | (with_reducible refine Kd.C_alloc ?_ _) | (with_reducible refine Kd.C_drewN ?_ _) | (with_reducible refine Kd.C_drew ?_))); (case side2 => exact (Kd.R_reads' HO307.out).2.1); (case side3 => repeat (first | exact (Kd.R_reads' HO319.out).2.2 | (with_reducible refine Kd.C_alloc ?_ _) | (with_reducible refine Kd.C_drewN ?_ _) | (with_reducible refine Kd.C_drew ?_))); (case side4 => exact (Kd.R_reads' HO319.out).2.1); rintro e w67 ⟨rfl, hb⟩; have n0_ := Aside0.mk (Kd.R_below (by (with_reducible repeat (first | apply Kd.R_alloc | apply Kd.R_drewN | apply Kd.R_drew)); exact HO_5.out) hb); have n1_ := Aside0.mk (Kd.R_below (by (with_reducible repeat (first | apply Kd.R_alloc | apply Kd.R_drewN | apply Kd.R_drew)); exact HO293.out) hb); have n2_ := Aside0.mk (Kd.R_below (by (with_reducible repeat (first | apply Kd.R_alloc | apply Kd.R_drewN | apply Kd.R_drew)); exact HO296.out) hb); have n3_ := Aside0.mk (Kd.R_below (by (with_reducible repeat (first | apply Kd.R_alloc | apply Kd.R_drewN | apply Kd.R_drew)); exact HO303.out) hb); have n4_ := Aside0.mk (Kd.R_below (by (with_reducible repeat (first | apply Kd.R_alloc | apply Kd.R_drewN | apply Kd.R_drew)); exact HO307.out) hb); have n5_ := Aside0.mk (Kd.R_below (by (with_reducible repeat (first | apply Kd.R_alloc | apply Kd.R_drewN | apply Kd.R_drew)); exact HO319.out) hb); have n6_ := Aside0.mk (below_step (by repeat (first | (with_reducible first | exact HB.out | apply below_alloc | apply pw_below_drewN | apply below_drew1) | exact HB.out)) hb); clear HO_5; clear HO293; clear HO296; clear HO303; clear HO307; clear HO319; clear HB; have HO_5 := n0_; have HO293 := n1_; have HO296 := n2_; have HO303 := n3_; have HO307 := n4_; have HO319 := n5_; have HB := n6_; clear n0_ n1_ n2_ n3_ n4_ n5_ n6_; (try clear hb); (try clear hb2); (try clear hk); (try clear hi); (try simp only [errW_none, errW_some])) | (go_at_call 4; (with_reducible refine (tithelaw22_works.calls kj8  t322 _ A50.out).mono ?_); rintro e w68 ⟨rfl, hb⟩; have n0_ := Aside0.mk (Kd.R_below (by (with_reducible repeat (first | apply Kd.R_alloc | apply Kd.R_drewN | apply Kd.R_drew)); exact HO_5.out) hb); have n1_ := Aside0.mk (Kd.R_below (by (with_reducible repeat (first | apply Kd.R_alloc | apply Kd.R_drewN | apply Kd.R_drew)); exact HO293.out) hb); have n2_ := Aside0.mk (Kd.R_below (by (with_reducible repeat (first | apply Kd.R_alloc | apply Kd.R_drewN | apply Kd.R_drew)); exact HO296.out) hb); have n3_ := Aside0.mk (Kd.R_below (by (with_reducible repeat (first | apply Kd.R_alloc | apply Kd.R_drewN | apply Kd.R_drew)); exact HO303.out) hb); have n4_ := Aside0.mk (Kd.R_below (by (with_reducible repeat (first | apply Kd.R_alloc | apply Kd.R_drewN | apply Kd.R_drew)); exact HO307.out) hb); have n5_ := Aside0.mk (Kd.R_below (by (with_reducible repeat (first | apply Kd.R_alloc | apply Kd.R_drewN | apply Kd.R_drew)); exact HO319.out) hb); have n6_ := Aside0.mk (below_step (by repeat (first | (with_reducible first | exact HB.out | apply below_alloc | apply pw_below_drewN | apply below_drew1) | exact HB.out)) hb); clear HO_5; clear HO293; clear HO296; clear HO303; clear HO307; clear HO319; clear HB; have HO_5 := n0_; have HO293 := n1_; have HO296 := n2_; have HO303 := n3_; have HO307 := n4_; have HO319 := n5_; have HB := n6_; clear n0_ n1_ n2_ n3_ n4_ n5_ n6_; (try clear hb); (try clear hb2); (try clear hk); (try clear hi)))
                  go_ret
                  exact ⟨by first | rfl | (simp [errW_none, errW_some] <;> rfl) | (simp [*, errW_none, errW_some] <;> rfl), by repeat (first | (with_reducible first | exact HB.out | apply below_alloc | apply pw_below_drewN | apply below_drew1) | exact HB.out)⟩
             ·have H1 : (none) = some r := by rw [if_neg (show ¬ (some q321).isNone = true by simp)] at H; exact H
              exact absurd H1 (by simp)
            ·have H1 : (none) = some r := by rw [if_neg (show ¬ (some q316).isNone = true by simp)] at H; exact H
             exact absurd H1 (by simp)
           ·rw [if_neg c47] at H; exact absurd H (by simp)
          ·rw [if_neg c45] at H; exact absurd H (by simp)
         ·exact absurd (by simpa using c33b0) c44
       ·have H1 : (if (t297 != false) = true then (none) else ((tithelaw22_twin.f l0).bind fun t323 => ((demand_Deadline.f kj8 t323).bind fun bt326 => (if t297 = true then (if (t282.length : Int) = (l0.length : Int) then (if okA l0 t282 = true then ((titheref22_Fits.f kj8 t282 l1).bind fun t337 => (if t337 = 0 then (if bt326.2.isNone = true then ((tithelaw22_row.f l1).bind fun t339 => ((response_Fits.f kj8 bt326.1 t339).bind fun t342 => (if t342.isNone = true then ((tithelaw22_works.f kj8).bind fun t344 => (some t344)) else (none)))) else (none)) else (none))) else (none)) else (none)) else (if (t282.length : Int) = 0 then (if bt326.2.isNone = true then ((tithelaw22_row.f l1).bind fun t331 => ((response_Fits.f kj8 bt326.1 t331).bind fun t334 => ((tithelaw22_num.f t334).bind fun t335 => (if t335 = 220 then ((tithelaw22_works.f kj8).bind fun t336 => (some t336)) else (none))))) else (none)) else (none)))))) = some r := by rw [if_neg (show ¬ (some q300).isNone = true by simp)] at H; exact H
        clear H
        have H := H1
        clear H1
        try simp only [errW_none, errW_some]
        by_cases c187 : (t297 != false) = true
        ·rw [if_pos c187] at H; exact absurd H (by simp)
        ·rw [if_neg c187] at H
         have c187b0 : (t297 != false) = false := by first | (simp; done) | (simp at c187; done) | simpa using c187
         (try (have c187b1 : decide (t297 = false) = true := by first | (simp; done) | (simp at c187; done) | simpa using c187))
         (try (have c187b2 : (t297 == false) = true := by first | (simp; done) | (simp at c187; done) | simpa using c187))
         clear c187
         replace H := Option.bind_eq_some_iff.mp H
         obtain ⟨t323, A1960, H⟩ := H
         replace H : ((demand_Deadline.f kj8 t323).bind fun bt326 => (if t297 = true then (if (t282.length : Int) = (l0.length : Int) then (if okA l0 t282 = true then ((titheref22_Fits.f kj8 t282 l1).bind fun t337 => (if t337 = 0 then (if bt326.2.isNone = true then ((tithelaw22_row.f l1).bind fun t339 => ((response_Fits.f kj8 bt326.1 t339).bind fun t342 => (if t342.isNone = true then ((tithelaw22_works.f kj8).bind fun t344 => (some t344)) else (none)))) else (none)) else (none))) else (none)) else (none)) else (if (t282.length : Int) = 0 then (if bt326.2.isNone = true then ((tithelaw22_row.f l1).bind fun t331 => ((response_Fits.f kj8 bt326.1 t331).bind fun t334 => ((tithelaw22_num.f t334).bind fun t335 => (if t335 = 220 then ((tithelaw22_works.f kj8).bind fun t336 => (some t336)) else (none))))) else (none)) else (none)))) = some r := H
         have A196 := Aside0.mk A1960
         clear A1960
         replace H := Option.bind_eq_some_iff.mp H
         obtain ⟨⟨t326, t327⟩, A1970, H⟩ := H
         replace H : (if t297 = true then (if (t282.length : Int) = (l0.length : Int) then (if okA l0 t282 = true then ((titheref22_Fits.f kj8 t282 l1).bind fun t337 => (if t337 = 0 then (if t327.isNone = true then ((tithelaw22_row.f l1).bind fun t339 => ((response_Fits.f kj8 t326 t339).bind fun t342 => (if t342.isNone = true then ((tithelaw22_works.f kj8).bind fun t344 => (some t344)) else (none)))) else (none)) else (none))) else (none)) else (none)) else (if (t282.length : Int) = 0 then (if t327.isNone = true then ((tithelaw22_row.f l1).bind fun t331 => ((response_Fits.f kj8 t326 t331).bind fun t334 => ((tithelaw22_num.f t334).bind fun t335 => (if t335 = 220 then ((tithelaw22_works.f kj8).bind fun t336 => (some t336)) else (none))))) else (none)) else (none))) = some r := H
         have A197 := Aside0.mk A1970
         clear A1970
         by_cases c198 : t297 = true
         ·exact absurd c198 (by rw [show t297 = false by simpa using c187b0]; simp)
         ·replace c198 := Bool.eq_false_iff.mpr c198
          subst c198
          have H1 : (if (t282.length : Int) = 0 then (if t327.isNone = true then ((tithelaw22_row.f l1).bind fun t331 => ((response_Fits.f kj8 t326 t331).bind fun t334 => ((tithelaw22_num.f t334).bind fun t335 => (if t335 = 220 then ((tithelaw22_works.f kj8).bind fun t336 => (some t336)) else (none))))) else (none)) else (none)) = some r := by rw [if_neg (show ¬ (false = true) by decide)] at H; exact H
          clear H
          have H := H1
          clear H1
          by_cases c278 : (t282.length : Int) = 0
          ·rw [if_pos c278] at H
           have c278b0 : ((t282.length : Int) == 0) = true := beq_iff_eq.mpr c278
           have c278b1 : ((t282.length : Int) != 0) = false := bne_eq_false_iff_eq.mpr c278
           clear c278
           rcases t327 with _ | q330
           ·have H1 : ((tithelaw22_row.f l1).bind fun t331 => ((response_Fits.f kj8 t326 t331).bind fun t334 => ((tithelaw22_num.f t334).bind fun t335 => (if t335 = 220 then ((tithelaw22_works.f kj8).bind fun t336 => (some t336)) else (none))))) = some r := by rw [if_pos (show (none : Option Int).isNone = true by rfl)] at H; exact H
            clear H
            have H := H1
            clear H1
            try simp only [errW_none, errW_some]
            replace H := Option.bind_eq_some_iff.mp H
            obtain ⟨t331, A2790, H⟩ := H
            replace H : ((response_Fits.f kj8 t326 t331).bind fun t334 => ((tithelaw22_num.f t334).bind fun t335 => (if t335 = 220 then ((tithelaw22_works.f kj8).bind fun t336 => (some t336)) else (none)))) = some r := H
            have A279 := Aside0.mk A2790
            clear A2790
            replace H := Option.bind_eq_some_iff.mp H
            obtain ⟨t334, A2800, H⟩ := H
            replace H : ((tithelaw22_num.f t334).bind fun t335 => (if t335 = 220 then ((tithelaw22_works.f kj8).bind fun t336 => (some t336)) else (none))) = some r := H
            have A280 := Aside0.mk A2800
            clear A2800
            replace H := Option.bind_eq_some_iff.mp H
            obtain ⟨t335, A2810, H⟩ := H
            replace H : (if t335 = 220 then ((tithelaw22_works.f kj8).bind fun t336 => (some t336)) else (none)) = some r := H
            have A281 := Aside0.mk A2810
            clear A2810
            by_cases c282 : t335 = 220
            ·rw [if_pos c282] at H
             have c282b0 : (t335 == 220) = true := beq_iff_eq.mpr c282
             have c282b1 : (t335 != 220) = false := bne_eq_false_iff_eq.mpr c282
             clear c282
             replace H := Option.bind_eq_some_iff.mp H
             obtain ⟨t336, A2830, H⟩ := H
             replace H : (some t336) = some r := H
             have A283 := Aside0.mk A2830
             clear A2830
             obtain rfl := Option.some.inj H
             try go_wp2
             have n0_ := Aside0.mk (Kd.R_drew HO_5.out)
             have n1_ := Aside0.mk (below_drew1 HB.out)
             clear HO_5
             clear HB
             have HO_5 := n0_
             have HB := n1_
             clear n0_ n1_
             refine start_ (n := 8) (S := fun w' => True) (ds := []) #[false, false, false, false, false, false, false, false] (by kernel_rfl) rfl rfl trivial (fun hHeld => ?_); refine with_tabW tithelaw22_ResponseBest.tab6 tithelaw22_ResponseBest.bits6 (fun HT_ HW_ => ?_)
             generalize wc.drew = w284 at HO_5 HB hHeld ⊢
             refine pure_ (i := 0) (N := some 48) (v := ?_) (a' := ?_) #[true, false, false, false, false, false, false, false] rfl rfl (any_of HT_.out (by kernel_rfl)) (fun _ _ _ h => h) (Or.inl ⟨by rfl, ?_⟩) ?_ ?_
             rotate_left
             ·intro w'
              go_simp
              with_reducible rfl
             rotate_left
             ·simp only [Act.put, List.setIfInBounds_toArray, List.set_cons_zero, List.set_cons_succ, i64_w, i32_w]
              rfl
             refine pure_ (i := 2) (N := some 50) (v := ?_) (a' := ?_) #[true, false, true, false, false, false, false, false] rfl rfl (any_of HT_.out (by kernel_rfl)) (fun _ _ _ h => h) (Or.inl ⟨by rfl, ?_⟩) ?_ ?_
             rotate_left
             ·intro w'
              go_simp
              with_reducible rfl
             rotate_left
             ·simp only [Act.put, List.setIfInBounds_toArray, List.set_cons_zero, List.set_cons_succ, i64_w, i32_w]
              rfl
             refine pure_ (i := 3) (N := some 51) (v := ?_) (a' := ?_) #[true, false, true, true, false, false, false, false] rfl rfl (any_of HT_.out (by kernel_rfl)) (fun _ _ _ h => h) (Or.inl ⟨by rfl, ?_⟩) ?_ ?_
             rotate_left
             ·intro w'
              go_simp
              with_reducible rfl
             rotate_left
             ·simp only [Act.put, List.setIfInBounds_toArray, List.set_cons_zero, List.set_cons_succ, i64_w, i32_w]
              rfl
             refine pure_ (i := 5) (N := some 53) (v := ?_) (a' := ?_) #[true, false, true, true, false, true, false, false] rfl rfl (any_of HT_.out (by kernel_rfl)) (fun _ _ _ h => h) (Or.inl ⟨by rfl, ?_⟩) ?_ ?_
             rotate_left
             ·intro w'
              go_simp
              with_reducible rfl
             rotate_left
             ·simp only [Act.put, List.setIfInBounds_toArray, List.set_cons_zero, List.set_cons_succ, i64_w, i32_w]
              rfl
             refine join_ (σ := Value × Value) 2 #[true, true, true, true, true, true, false, false] (fun s_ => [(49, s_.1), (52, s_.2)]) (fun s_ w' => (Kd.R k39 39 w' w.heap.size (fun k_ => some k_ ≠ (v284 : Value).ownBlock) s_.1 t291) ∧ (Kd.R Kd.bool 4 w' w.heap.size (fun _ => True) s_.2 y294) ∧ (Kd.R k39 39 w' w.heap.size (fun k_ => some k_ ≠ (s_.1 : Value).ownBlock) v284 t282) ∧ (Below w.heap.size w w')) ?_ ?_
             rotate_left
             ·intro hCont
              refine two_ (i := 1) (j := 4) (Ni := some 49) (Nj := some 52) #[true, true, true, true, false, true, false, false] #[true, false, true, true, true, true, false, false] rfl rfl rfl rfl (two_of HT_.out (by kernel_rfl)) (by decide) (by decide) (fun K hK => ?_) (fun K hK => ?_)
              ·skip
               refine goes_ Try.func6 (by kernel_rfl) rfl #[.slice A0 l0.length c0] (by rfl) rfl rfl (by (try simp only [List.map_toArray, List.map_cons, List.map_nil]); first | done | rfl | (simp only [List.length_drop, List.length_take]; rfl)) ?_
               with_reducible refine (tithelaw22_twin.calls _ _ l0 t291 _ ?side1 ?side2 A29.out).mono ?_
               (case side1 => repeat (first | exact (Kd.C_below HR0.out HB.out) | (with_reducible refine Kd.C_alloc ?_ _) | (with_reducible refine Kd.C_drewN ?_ _) | (with_reducible refine Kd.C_drew ?_)))
               (case side2 => exact HC0.out)
               rintro e w285 ⟨v292, rfl, ho0, hb⟩
               refine ⟨_, rfl, ?_⟩
               have n0_ := Aside0.mk (Kd.R_elder' (by (with_reducible repeat (first | apply Kd.R_alloc | apply Kd.R_drewN | apply Kd.R_drew)); exact HO_5.out) (Kd.R_base ho0) hb)
               have n1_ := Aside0.mk (Kd.R_lower (Kd.R_new' ho0 (Kd.R_lt (by (with_reducible repeat (first | apply Kd.R_alloc | apply Kd.R_drewN | apply Kd.R_drew)); exact HO_5.out))) (below_size (by repeat (first | (with_reducible first | exact HB.out | apply below_alloc | apply pw_below_drewN | apply below_drew1) | exact HB.out))))
               have n2_ := Aside0.mk (below_step (by repeat (first | (with_reducible first | exact HB.out | apply below_alloc | apply pw_below_drewN | apply below_drew1) | exact HB.out)) hb)
               clear HO_5
               clear HB
               have HO_5 := n0_
               have HO293 := n1_
               have HB := n2_
               clear n0_ n1_ n2_
               (try clear hb)
               (try clear hb2)
               (try clear hk)
               (try clear hi)
               (try clear ho0)
               refine hK.out _ _ trivial (fun hHeld => ?_)
               clear hK K
               refine norm_ (a' := ?_) ?_ ?_
               rotate_left
               ·show Act.put _ (some 49) _ = _
                simp only [Act.put, List.setIfInBounds_toArray, List.set_cons_zero, List.set_cons_succ, i64_w, i32_w]
                rfl
               refine one_ (i := 4) (N := some 52) #[true, true, true, true, true, true, false, false] rfl rfl (one_of HT_.out (by kernel_rfl)) (by decide) (fun K hK => ?_)
               refine Kd.R_make_step Kd.bool _ 4 (by rfl) (N := 52) rfl 34 _ _ rfl (l0.length : Int) rfl rfl Try.underlying34 (.bool false) 1 info4 rfl (by decide) (by omega) false (ok := fun _ => True) (okp := fun _ => True) rfl (fun _ hk => hk) trivial (of_decide_eq_true (by first | (with_reducible assumption) | assumption)) (Nat.le_trans (Nat.mul_le_mul_right _ (of_decide_eq_true (by first | (with_reducible assumption) | assumption) : (l0.length : Int).toNat ≤ 281474976710656)) (by omega)) (Below.refl _ _) (Nat.le_refl _) ?_
               intro v295 w286 ho287 hb hg_ hnew_
               clear hg_ hnew_
               (first | rw [← Ny294.out] at ho287 | (simp only [Int.reduceToNat] at ho287; rw [← Ny294.out] at ho287))
               have n0_ := Aside0.mk (Kd.R_below (by (with_reducible repeat (first | apply Kd.R_alloc | apply Kd.R_drewN | apply Kd.R_drew)); exact HO_5.out) hb)
               have n1_ := Aside0.mk (Kd.R_below (by (with_reducible repeat (first | apply Kd.R_alloc | apply Kd.R_drewN | apply Kd.R_drew)); exact HO293.out) hb)
               have n2_ := Aside0.mk (Kd.R_lower ho287 (below_size (by repeat (first | (with_reducible first | exact HB.out | apply below_alloc | apply pw_below_drewN | apply below_drew1) | exact HB.out))))
               have n3_ := Aside0.mk (below_step (by repeat (first | (with_reducible first | exact HB.out | apply below_alloc | apply pw_below_drewN | apply below_drew1) | exact HB.out)) hb)
               clear HO_5
               clear HO293
               clear HB
               have HO_5 := n0_
               have HO293 := n1_
               have HO296 := n2_
               have HB := n3_
               clear n0_ n1_ n2_ n3_
               clear hb ho287
               refine hK.out _ _ trivial (fun hHeld => ?_)
               clear hK K
               refine norm_ (a' := ?_) ?_ ?_
               rotate_left
               ·show Act.put _ (some 52) _ = _
                simp only [Act.put, List.setIfInBounds_toArray, List.set_cons_zero, List.set_cons_succ, i64_w, i32_w]
                rfl
               exact norm_ (by simp only [putAll, Act.put, List.setIfInBounds_toArray, List.set_cons_zero, List.set_cons_succ]) (hCont (v292, v295) _ ⟨(by (with_reducible repeat (first | apply Kd.R_alloc | apply Kd.R_drewN | apply Kd.R_drew)); exact Kd.R_mono HO293.out (fun _ hk => hk.2)), (by (with_reducible repeat (first | apply Kd.R_alloc | apply Kd.R_drewN | apply Kd.R_drew)); exact HO296.out), (by (with_reducible repeat (first | apply Kd.R_alloc | apply Kd.R_drewN | apply Kd.R_drew)); exact Kd.R_mono HO_5.out (fun _ hk => hk.2)), (by repeat (first | (with_reducible first | exact HB.out | apply below_alloc | apply pw_below_drewN | apply below_drew1) | exact HB.out))⟩)
              ·skip
               refine Kd.R_make_step Kd.bool _ 4 (by rfl) (N := 52) rfl 34 _ _ rfl (l0.length : Int) rfl rfl Try.underlying34 (.bool false) 1 info4 rfl (by decide) (by omega) false (ok := fun _ => True) (okp := fun _ => True) rfl (fun _ hk => hk) trivial (of_decide_eq_true (by first | (with_reducible assumption) | assumption)) (Nat.le_trans (Nat.mul_le_mul_right _ (of_decide_eq_true (by first | (with_reducible assumption) | assumption) : (l0.length : Int).toNat ≤ 281474976710656)) (by omega)) (Below.refl _ _) (Nat.le_refl _) ?_
               intro v295 w285 ho286 hb hg_ hnew_
               clear hg_ hnew_
               (first | rw [← Ny294.out] at ho286 | (simp only [Int.reduceToNat] at ho286; rw [← Ny294.out] at ho286))
               have n0_ := Aside0.mk (Kd.R_below (by (with_reducible repeat (first | apply Kd.R_alloc | apply Kd.R_drewN | apply Kd.R_drew)); exact HO_5.out) hb)
               have n1_ := Aside0.mk (Kd.R_lower ho286 (below_size (by repeat (first | (with_reducible first | exact HB.out | apply below_alloc | apply pw_below_drewN | apply below_drew1) | exact HB.out))))
               have n2_ := Aside0.mk (below_step (by repeat (first | (with_reducible first | exact HB.out | apply below_alloc | apply pw_below_drewN | apply below_drew1) | exact HB.out)) hb)
               clear HO_5
               clear HB
               have HO_5 := n0_
               have HO296 := n1_
               have HB := n2_
               clear n0_ n1_ n2_
               clear hb ho286
               refine hK.out _ _ trivial (fun hHeld => ?_)
               clear hK K
               refine norm_ (a' := ?_) ?_ ?_
               rotate_left
               ·show Act.put _ (some 52) _ = _
                simp only [Act.put, List.setIfInBounds_toArray, List.set_cons_zero, List.set_cons_succ, i64_w, i32_w]
                rfl
               refine one_ (i := 1) (N := some 49) #[true, true, true, true, true, true, false, false] rfl rfl (one_of HT_.out (by kernel_rfl)) (by decide) (fun K hK => ?_)
               refine goes_ Try.func6 (by kernel_rfl) rfl #[.slice A0 l0.length c0] (by rfl) rfl rfl (by (try simp only [List.map_toArray, List.map_cons, List.map_nil]); first | done | rfl | (simp only [List.length_drop, List.length_take]; rfl)) ?_
               with_reducible refine (tithelaw22_twin.calls _ _ l0 t291 _ ?side1 ?side2 A29.out).mono ?_
               (case side1 => repeat (first | exact (Kd.C_below HR0.out HB.out) | (with_reducible refine Kd.C_alloc ?_ _) | (with_reducible refine Kd.C_drewN ?_ _) | (with_reducible refine Kd.C_drew ?_)))
               (case side2 => exact HC0.out)
               rintro e w287 ⟨v292, rfl, ho0, hb⟩
               refine ⟨_, rfl, ?_⟩
               have n0_ := Aside0.mk (Kd.R_elder' (by (with_reducible repeat (first | apply Kd.R_alloc | apply Kd.R_drewN | apply Kd.R_drew)); exact HO_5.out) (Kd.R_base ho0) hb)
               have n1_ := Aside0.mk (Kd.R_below (by (with_reducible repeat (first | apply Kd.R_alloc | apply Kd.R_drewN | apply Kd.R_drew)); exact HO296.out) hb)
               have n2_ := Aside0.mk (Kd.R_lower (Kd.R_new' ho0 (Kd.R_lt (by (with_reducible repeat (first | apply Kd.R_alloc | apply Kd.R_drewN | apply Kd.R_drew)); exact HO_5.out))) (below_size (by repeat (first | (with_reducible first | exact HB.out | apply below_alloc | apply pw_below_drewN | apply below_drew1) | exact HB.out))))
               have n3_ := Aside0.mk (below_step (by repeat (first | (with_reducible first | exact HB.out | apply below_alloc | apply pw_below_drewN | apply below_drew1) | exact HB.out)) hb)
               clear HO_5
               clear HO296
               clear HB
               have HO_5 := n0_
               have HO296 := n1_
               have HO293 := n2_
               have HB := n3_
               clear n0_ n1_ n2_ n3_
               (try clear hb)
               (try clear hb2)
               (try clear hk)
               (try clear hi)
               (try clear ho0)
               refine hK.out _ _ trivial (fun hHeld => ?_)
               clear hK K
               refine norm_ (a' := ?_) ?_ ?_
               rotate_left
               ·show Act.put _ (some 49) _ = _
                simp only [Act.put, List.setIfInBounds_toArray, List.set_cons_zero, List.set_cons_succ, i64_w, i32_w]
                rfl
               exact norm_ (by simp only [putAll, Act.put, List.setIfInBounds_toArray, List.set_cons_zero, List.set_cons_succ]) (hCont (v292, v295) _ ⟨(by (with_reducible repeat (first | apply Kd.R_alloc | apply Kd.R_drewN | apply Kd.R_drew)); exact Kd.R_mono HO293.out (fun _ hk => hk.2)), (by (with_reducible repeat (first | apply Kd.R_alloc | apply Kd.R_drewN | apply Kd.R_drew)); exact HO296.out), (by (with_reducible repeat (first | apply Kd.R_alloc | apply Kd.R_drewN | apply Kd.R_drew)); exact Kd.R_mono HO_5.out (fun _ hk => hk.2)), (by repeat (first | (with_reducible first | exact HB.out | apply below_alloc | apply pw_below_drewN | apply below_drew1) | exact HB.out))⟩)
             rintro ⟨v292, v295⟩ w288 ⟨h0_, h1_, h2_, h3_⟩
             have n0_ : Aside0 (Kd.R k39 39 w288 w.heap.size (fun k_ => some k_ ≠ (v284 : Value).ownBlock) v292 t291) := ⟨h0_⟩
             have n1_ : Aside0 (Kd.R Kd.bool 4 w288 w.heap.size (fun _ => True) v295 y294) := ⟨h1_⟩
             have n2_ : Aside0 (Kd.R k39 39 w288 w.heap.size (fun k_ => some k_ ≠ (v292 : Value).ownBlock) v284 t282) := ⟨h2_⟩
             have n3_ : Aside0 (Below w.heap.size w w288) := ⟨h3_⟩
             clear HO_5
             clear HB
             clear h0_ h1_ h2_ h3_
             have HO293 := n0_
             have HO296 := n1_
             have HO_5 := n2_
             have HB := n3_
             clear n0_ n1_ n2_ n3_
             have hHeld := trivial
             obtain ⟨Ao289, co289, eo289⟩ := Kd.R_slice HO293.out
             (first | subst eo289 | (injection eo289 with f1_ f2_ f3_; have f4_ := f1_.symm; have f5_ := f3_.symm; clear f1_ f2_ f3_; subst f4_; subst f5_))
             obtain ⟨Ao290, co290, eo290⟩ := Kd.R_slice HO296.out
             (first | subst eo290 | (injection eo290 with f1_ f2_ f3_; have f4_ := f1_.symm; have f5_ := f3_.symm; clear f1_ f2_ f3_; subst f4_; subst f5_))
             refine norm_ (a' := ?_) ?_ ?_
             rotate_left
             ·simp only [putAll, Act.put, List.setIfInBounds_toArray, List.set_cons_zero, List.set_cons_succ]
              rfl
             refine one_ (i := 6) (N := some 54) #[true, true, true, true, true, true, true, false] rfl rfl (one_of HT_.out (by kernel_rfl)) (by decide) (fun K hK => ?_)
             refine goes_ Try.func10 (by kernel_rfl) rfl #[.slice Ao289 t291.length co289, .slice Ao290 y294.length co290, .int .i64 0, .slice A1 l1.length c1] (by rfl) rfl rfl (by (try simp only [List.map_toArray, List.map_cons, List.map_nil]); first | done | rfl | (simp only [List.length_drop, List.length_take]; rfl)) ?_
             with_reducible refine (tithelaw22_permuted.calls kj8 (fun k_ => some k_ = (.slice Ao289 t291.length co289 : Value).ownBlock) (.slice Ao289 t291.length co289) t291 (fun k_ => some k_ = (.slice Ao290 y294.length co290 : Value).ownBlock) (.slice Ao290 y294.length co290) y294 0 _ _ l1 false t298 t299 w _ ?side1 ?side2 ?side3 ?side4 ?side5 A32.out).mono ?_
             (case side1 => repeat (first | (with_reducible first | exact HB.out | apply below_alloc | apply pw_below_drewN | apply below_drew1) | exact HB.out))
             (case side2 => exact Kd.R_tight rfl HO293.out)
             (case side3 => exact Kd.R_tight rfl HO296.out)
             (case side4 => exact Kd.C_kept_came k48_heap HR1.out (by repeat (first | (with_reducible first | exact HB.out | apply below_alloc | apply pw_below_drewN | apply below_drew1) | exact HB.out)) (fun k_ hs_ => Or.elim hs_ (fun e_ => (fun e_ => Kd.R_base HO293.out k_ e_.symm) e_) (fun e_ => (fun e_ => Kd.R_base HO296.out k_ e_.symm) e_)))
             (case side5 => exact HC1.out)
             rintro e w291 ⟨rfl, hy0, hy1, hb, hkp⟩
             refine ⟨_, rfl, ?_⟩
             have n0_ := Aside0.mk (Kd.R_mono (ok' := fun k_ => some k_ ≠ (.slice Ao289 t291.length co289 : Value).ownBlock) (Kd.R_keptB ((Kd.R_apart' HO_5.out (Kd.R_typed HO296.out) (by decide))) hkp (fun k_ hk_ hs_ => Or.elim hs_ (fun e_ => (hk_.1) e_) (fun e_ => (hk_.2) e_))) (fun k_ hk_ => hk_.1.1))
             have n1_ := Aside0.mk (Kd.R_reok rfl hy0 (fun k_ e_ => HO293.out.1 k_ e_))
             have n2_ := Aside0.mk (Kd.R_reok rfl hy1 (fun k_ e_ => HO296.out.1 k_ e_))
             have n3_ := Aside0.mk (hb)
             clear HO_5
             clear HO293
             clear HO296
             clear HB
             have HO_5 := n0_
             have HO293 := n1_
             have HO296 := n2_
             have HB := n3_
             clear n0_ n1_ n2_ n3_
             (try clear hb)
             (try clear hkp)
             (try clear hy0)
             (try clear hy1)
             refine hK.out _ _ trivial (fun hHeld => ?_)
             clear hK K
             refine norm_ (a' := ?_) ?_ ?_
             rotate_left
             ·show Act.put _ (some 54) _ = _
              simp only [Act.put, List.setIfInBounds_toArray, List.set_cons_zero, List.set_cons_succ, i64_w, i32_w]
              rfl
             refine pure_ (i := 7) (N := some 7) (v := ?_) (a' := ?_) #[true, true, true, true, true, true, true, true] rfl rfl (any_of HT_.out (by kernel_rfl)) (fun _ _ _ h => h) (Or.inl ⟨by rfl, ?_⟩) ?_ ?_
             rotate_left
             ·intro w'
              go_simp
              with_reducible rfl
             rotate_left
             ·simp only [Act.put, List.setIfInBounds_toArray, List.set_cons_zero, List.set_cons_succ, i64_w, i32_w]
              rfl
             refine done_ (done_of HT_.out (by kernel_rfl)) ?_
             try go_wp2_with (first | ((with_reducible refine gate_callee (f := 6) rfl ?_); refine goesL_ (some 61) rfl rfl Try.func6 (by kernel_rfl) rfl #[.slice A0 l0.length c0] rfl (by (try simp only [List.map_toArray, List.map_cons, List.map_nil]); first | done | rfl | (simp only [List.length_drop, List.length_take]; rfl)) ?_; (with_reducible refine (tithelaw22_twin.calls _ _ l0 t323 _ ?side1 ?side2 A196.out).mono ?_); (case side1 => repeat (first | exact (Kd.C_below HR0.out HB.out) | (with_reducible refine Kd.C_alloc ?_ _) | (with_reducible refine Kd.C_drewN ?_ _) | (with_reducible refine Kd.C_drew ?_))); (case side2 => exact HC0.out); rintro e w292 ⟨v324, rfl, ho0, hb⟩; refine ⟨_, rfl, ?_⟩; have n0_ := Aside0.mk (Kd.R_elder' (by (with_reducible repeat (first | apply Kd.R_alloc | apply Kd.R_drewN | apply Kd.R_drew)); exact HO_5.out) (Kd.R_base ho0) hb); have n1_ := Aside0.mk (Kd.R_elder' (by (with_reducible repeat (first | apply Kd.R_alloc | apply Kd.R_drewN | apply Kd.R_drew)); exact HO293.out) (Kd.R_base ho0) hb); have n2_ := Aside0.mk (Kd.R_below (by (with_reducible repeat (first | apply Kd.R_alloc | apply Kd.R_drewN | apply Kd.R_drew)); exact HO296.out) hb); have n3_ := Aside0.mk (Kd.R_lower (Kd.R_new' (Kd.R_new' ho0 (Kd.R_lt (by (with_reducible repeat (first | apply Kd.R_alloc | apply Kd.R_drewN | apply Kd.R_drew)); exact HO_5.out))) (Kd.R_lt (by (with_reducible repeat (first | apply Kd.R_alloc | apply Kd.R_drewN | apply Kd.R_drew)); exact HO293.out))) (below_size (by repeat (first | (with_reducible first | exact HB.out | apply below_alloc | apply pw_below_drewN | apply below_drew1) | exact HB.out)))); have n4_ := Aside0.mk (below_step (by repeat (first | (with_reducible first | exact HB.out | apply below_alloc | apply pw_below_drewN | apply below_drew1) | exact HB.out)) hb); clear HO_5; clear HO293; clear HO296; clear HB; have HO_5 := n0_; have HO293 := n1_; have HO296 := n2_; have HO325 := n3_; have HB := n4_; clear n0_ n1_ n2_ n3_ n4_; (try clear hb); (try clear hb2); (try clear hk); (try clear hi); (try clear ho0); obtain ⟨Ao293, co293, eo293⟩ := Kd.R_slice HO325.out; subst eo293) | ((with_reducible refine gate_callee (f := 11) rfl ?_); refine goesL_ (some 62) rfl rfl Try.func11 (by kernel_rfl) rfl #[.slice Ao293 t323.length co293] rfl (by (try simp only [List.map_toArray, List.map_cons, List.map_nil]); first | done | rfl | (simp only [List.length_drop, List.length_take]; rfl)) ?_; (with_reducible refine (demand_Deadline.calls kj8 _ _ t323 t326 none _ ?side1 ?side2 A197.out).mono ?_); (case side1 => repeat (first | exact (Kd.R_reads' HO325.out).2.2 | (with_reducible refine Kd.C_alloc ?_ _) | (with_reducible refine Kd.C_drewN ?_ _) | (with_reducible refine Kd.C_drew ?_))); (case side2 => exact (Kd.R_reads' HO325.out).2.1); rintro e w294 ⟨v328, rfl, ho0, hb⟩; refine ⟨_, rfl, ?_⟩; have n0_ := Aside0.mk (Kd.R_elder' (by (with_reducible repeat (first | apply Kd.R_alloc | apply Kd.R_drewN | apply Kd.R_drew)); exact HO_5.out) (Kd.R_base ho0) hb); have n1_ := Aside0.mk (Kd.R_elder' (by (with_reducible repeat (first | apply Kd.R_alloc | apply Kd.R_drewN | apply Kd.R_drew)); exact HO293.out) (Kd.R_base ho0) hb); have n2_ := Aside0.mk (Kd.R_below (by (with_reducible repeat (first | apply Kd.R_alloc | apply Kd.R_drewN | apply Kd.R_drew)); exact HO296.out) hb); have n3_ := Aside0.mk (Kd.R_elder' (by (with_reducible repeat (first | apply Kd.R_alloc | apply Kd.R_drewN | apply Kd.R_drew)); exact HO325.out) (Kd.R_base ho0) hb); have n4_ := Aside0.mk (Kd.R_lower (Kd.R_new' (Kd.R_new' (Kd.R_new' ho0 (Kd.R_lt (by (with_reducible repeat (first | apply Kd.R_alloc | apply Kd.R_drewN | apply Kd.R_drew)); exact HO_5.out))) (Kd.R_lt (by (with_reducible repeat (first | apply Kd.R_alloc | apply Kd.R_drewN | apply Kd.R_drew)); exact HO293.out))) (Kd.R_lt (by (with_reducible repeat (first | apply Kd.R_alloc | apply Kd.R_drewN | apply Kd.R_drew)); exact HO325.out))) (below_size (by repeat (first | (with_reducible first | exact HB.out | apply below_alloc | apply pw_below_drewN | apply below_drew1) | exact HB.out)))); have n5_ := Aside0.mk (below_step (by repeat (first | (with_reducible first | exact HB.out | apply below_alloc | apply pw_below_drewN | apply below_drew1) | exact HB.out)) hb); clear HO_5; clear HO293; clear HO296; clear HO325; clear HB; have HO_5 := n0_; have HO293 := n1_; have HO296 := n2_; have HO325 := n3_; have HO329 := n4_; have HB := n5_; clear n0_ n1_ n2_ n3_ n4_ n5_; (try clear hb); (try clear hb2); (try clear hk); (try clear hi); (try clear ho0); (try simp only [errW_none, errW_some]); obtain ⟨Ao295, co295, eo295⟩ := Kd.R_slice HO_5.out; subst eo295) | (go_at_call 7; (with_reducible refine (tithelaw22_row.calls _ _ l1 t331 _ ?side1 ?side2 A279.out).mono ?_); (case side1 => repeat (first | exact (Kd.C_below HR1.out HB.out) | (with_reducible refine Kd.C_alloc ?_ _) | (with_reducible refine Kd.C_drewN ?_ _) | (with_reducible refine Kd.C_drew ?_))); (case side2 => exact HC1.out); rintro e w296 ⟨v332, rfl, ho0, hb⟩; have n0_ := Aside0.mk (Kd.R_below (by (with_reducible repeat (first | apply Kd.R_alloc | apply Kd.R_drewN | apply Kd.R_drew)); exact HO_5.out) hb); have n1_ := Aside0.mk (Kd.R_below (by (with_reducible repeat (first | apply Kd.R_alloc | apply Kd.R_drewN | apply Kd.R_drew)); exact HO293.out) hb); have n2_ := Aside0.mk (Kd.R_below (by (with_reducible repeat (first | apply Kd.R_alloc | apply Kd.R_drewN | apply Kd.R_drew)); exact HO296.out) hb); have n3_ := Aside0.mk (Kd.R_below (by (with_reducible repeat (first | apply Kd.R_alloc | apply Kd.R_drewN | apply Kd.R_drew)); exact HO325.out) hb); have n4_ := Aside0.mk (Kd.R_below (by (with_reducible repeat (first | apply Kd.R_alloc | apply Kd.R_drewN | apply Kd.R_drew)); exact HO329.out) hb); have n5_ := Aside0.mk (Kd.R_lower ho0 (below_size (by repeat (first | (with_reducible first | exact HB.out | apply below_alloc | apply pw_below_drewN | apply below_drew1) | exact HB.out)))); have n6_ := Aside0.mk (below_step (by repeat (first | (with_reducible first | exact HB.out | apply below_alloc | apply pw_below_drewN | apply below_drew1) | exact HB.out)) hb); clear HO_5; clear HO293; clear HO296; clear HO325; clear HO329; clear HB; have HO_5 := n0_; have HO293 := n1_; have HO296 := n2_; have HO325 := n3_; have HO329 := n4_; have HO333 := n5_; have HB := n6_; clear n0_ n1_ n2_ n3_ n4_ n5_ n6_; (try clear hb); (try clear hb2); (try clear hk); (try clear hi); (try clear ho0); obtain ⟨Ao297, co297, eo297⟩ := Kd.R_slice HO329.out; subst eo297; obtain ⟨Ao298, co298, eo298⟩ := Kd.R_slice HO333.out; subst eo298) | (go_at_call 12; (with_reducible refine (response_Fits.calls kj8 _ _ t326 _ _ t331 t334 _ ?side1 ?side2 ?side3 ?side4 A280.out).mono ?_); (case side1 => repeat (first | exact (Kd.R_reads' HO329.out).2.2 | (with_reducible refine Kd.C_alloc ?_ _) | (with_reducible refine Kd.C_drewN ?_ _) | (with_reducible refine Kd.C_drew ?_))); (case side2 => exact (Kd.R_reads' HO329.out).2.1); (case side3 => repeat (first | exact (Kd.R_reads' HO333.out).2.2 | (with_reducible refine Kd.C_alloc ?_ _) | (with_reducible refine Kd.C_drewN ?_ _) | (with_reducible refine Kd.C_drew ?_))); (case side4 => exact (Kd.R_reads' HO333.out).2.1); rintro e w299 ⟨rfl, hb⟩; have n0_ := Aside0.mk (Kd.R_below (by (with_reducible repeat (first | apply Kd.R_alloc | apply Kd.R_drewN | apply Kd.R_drew)); exact HO_5.out) hb); have n1_ := Aside0.mk (Kd.R_below (by (with_reducible repeat (first | apply Kd.R_alloc | apply Kd.R_drewN | apply Kd.R_drew)); exact HO293.out) hb); have n2_ := Aside0.mk (Kd.R_below (by (with_reducible repeat (first | apply Kd.R_alloc | apply Kd.R_drewN | apply Kd.R_drew)); exact HO296.out) hb); have n3_ := Aside0.mk (Kd.R_below (by (with_reducible repeat (first | apply Kd.R_alloc | apply Kd.R_drewN | apply Kd.R_drew)); exact HO325.out) hb); have n4_ := Aside0.mk (Kd.R_below (by (with_reducible repeat (first | apply Kd.R_alloc | apply Kd.R_drewN | apply Kd.R_drew)); exact HO329.out) hb); have n5_ := Aside0.mk (Kd.R_below (by (with_reducible repeat (first | apply Kd.R_alloc | apply Kd.R_drewN | apply Kd.R_drew)); exact HO333.out) hb); have n6_ := Aside0.mk (below_step (by repeat (first | (with_reducible first | exact HB.out | apply below_alloc | apply pw_below_drewN | apply below_drew1) | exact HB.out)) hb); clear HO_5; clear HO293; clear HO296; clear HO325; clear HO329; clear HO333; clear HB; have HO_5 := n0_; have HO293 := n1_; have HO296 := n2_; have HO325 := n3_; have HO329 := n4_; have HO333 := n5_; have HB := n6_; clear n0_ n1_ n2_ n3_ n4_ n5_ n6_; (try clear hb); (try clear hb2); (try clear hk); (try clear hi); (try simp only [errW_none, errW_some]); have CA281 := fun W => tithelaw22_num.calls t334 t335 W A281.out; try simp only [errW_none, errW_some] at CA281) | (go_at_call 9; (with_reducible refine (CA281 _).mono ?_); rintro e w' ⟨rfl, ⟨nd, rfl⟩⟩) | (go_at_call 4; (with_reducible refine (tithelaw22_works.calls kj8  t336 _ A283.out).mono ?_); rintro e w300 ⟨rfl, hb⟩; have n0_ := Aside0.mk (Kd.R_below (by (with_reducible repeat (first | apply Kd.R_alloc | apply Kd.R_drewN | apply Kd.R_drew)); exact HO_5.out) hb); have n1_ := Aside0.mk (Kd.R_below (by (with_reducible repeat (first | apply Kd.R_alloc | apply Kd.R_drewN | apply Kd.R_drew)); exact HO293.out) hb); have n2_ := Aside0.mk (Kd.R_below (by (with_reducible repeat (first | apply Kd.R_alloc | apply Kd.R_drewN | apply Kd.R_drew)); exact HO296.out) hb); have n3_ := Aside0.mk (Kd.R_below (by (with_reducible repeat (first | apply Kd.R_alloc | apply Kd.R_drewN | apply Kd.R_drew)); exact HO325.out) hb); have n4_ := Aside0.mk (Kd.R_below (by (with_reducible repeat (first | apply Kd.R_alloc | apply Kd.R_drewN | apply Kd.R_drew)); exact HO329.out) hb); have n5_ := Aside0.mk (Kd.R_below (by (with_reducible repeat (first | apply Kd.R_alloc | apply Kd.R_drewN | apply Kd.R_drew)); exact HO333.out) hb); have n6_ := Aside0.mk (below_step (by repeat (first | (with_reducible first | exact HB.out | apply below_alloc | apply pw_below_drewN | apply below_drew1) | exact HB.out)) hb); clear HO_5; clear HO293; clear HO296; clear HO325; clear HO329; clear HO333; clear HB; have HO_5 := n0_; have HO293 := n1_; have HO296 := n2_; have HO325 := n3_; have HO329 := n4_; have HO333 := n5_; have HB := n6_; clear n0_ n1_ n2_ n3_ n4_ n5_ n6_; (try clear hb); (try clear hb2); (try clear hk); (try clear hi)))
             go_ret
             exact ⟨by first | rfl | (simp [errW_none, errW_some] <;> rfl) | (simp [*, errW_none, errW_some] <;> rfl), by repeat (first | (with_reducible first | exact HB.out | apply below_alloc | apply pw_below_drewN | apply below_drew1) | exact HB.out)⟩
            ·rw [if_neg c282] at H; exact absurd H (by simp)
           ·have H1 : (none) = some r := by rw [if_neg (show ¬ (some q330).isNone = true by simp)] at H; exact H
            exact absurd H1 (by simp)
          ·rw [if_neg c278] at H; exact absurd H (by simp)
      ·rw [if_neg c31] at H
       exact absurd H (by simp)
     ·rw [if_neg c30] at H
      exact absurd H (by simp)

end Go.Proofs.Ytffckkjaeekanaa.B
