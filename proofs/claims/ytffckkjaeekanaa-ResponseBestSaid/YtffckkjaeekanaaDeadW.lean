/- What demand.Deadline answers: all work with its ranks by due times as priorities, or the error. No conditions. -/
import Derived.Test.YtffckkjaeekanaaAudW
import Derived.Test.YtffckkjaeekanaaOrdD
import Derived.Test.YtffckkjaeekanaaBx2
namespace Go.Proofs.Ytffckkjaeekanaa.B
open Go.RowKit Go.Proofs.YtffckkjaeekanaaW.PrintWords Go.Proofs.YtffckkjaeekanaaW.PrintLast Go.Proofs.YtffckkjaeekanaaW.PrintMore Go.Proofs.Ytffckkjaeekanaa.Aud
set_option linter.unusedVariables false
/-- the ranks, once r places of the order have been seen -/
def rkN (l : List S39) : Nat → Nat → Int
  | 0 => (au0 l).ps
  | r + 1 => setP (rkN l r) (rd (ordD l) (r : Int)).toNat (r : Int)
def demand_Deadline.f (k : Nat) (l0 : List S39) : Option (List S39 × Option Int) :=
  (demand_Valid.f k l0).bind fun e => if e.isSome = true then some ([], e) else if l0.length ≤ 8 then some (outA l0 (rkN l0 l0.length), none) else none
theorem demand_Deadline.mono : ∀ l0 k, LeO (demand_Deadline.f k l0) (demand_Deadline.f (k + 1) l0) := by
  intro l0 k
  unfold demand_Deadline.f
  exact LeO.bind (demand_Valid.mono _ _) fun e => LeO.refl _
theorem ordD_len (l : List S39) : (ordD l).length = l.length := by unfold ordD; rw [List.length_map, Tithe.srt_length, List.length_range]
theorem ordD_rd {l : List S39} {r : Nat} (h : r < l.length) : ∃ j : Nat, rd (ordD l) (r : Int) = (j : Int) ∧ j < l.length := by
  have hr : r < (ordD l).length := by rw [ordD_len]; exact h
  have hm : (ordD l)[r] ∈ ordD l := List.getElem_mem hr
  have e : rd (ordD l) (r : Int) = (ordD l)[r] := by simp [rd, List.getD, hr]
  rw [e]
  unfold ordD at hm ⊢
  obtain ⟨j, hj, he⟩ := List.mem_map.1 hm
  refine ⟨j, he.symm, ?_⟩
  have := ((Tithe.srt_perm _ _).mem_iff.1 hj)
  exact List.mem_range.1 this
set_option maxHeartbeats 8000000 in
set_option maxRecDepth 1000000 in
theorem ranked_due (k : Nat) (A0 : Option Addr) (c0 : Nat) (l0 : List (S39)) (r1 : List (S39)) (r2 : Option Int) (w : World) (hr0 : Kd.C k39 w A0 l0.length l0) (hc0 : l0.length ≤ c0) (h : demand_Deadline.f k l0 = some (r1, r2)) :
    Calls Try.prog 20 #[.slice A0 l0.length c0, .func (.func 21) #[] #[]] w fun e w' => ∃ v0_ : Value, e = .returned (.tuple #[v0_, errW r2]) ∧ Kd.R k39 39 w' w.heap.size (fun _ => True) v0_ r1 ∧ Below w.heap.size w w' := by
  have hu39 := Try.underlying39
  have hu22 := Try.underlying22
  have hu26 := Try.underlying26
  have hu51 := Try.underlying51
  unfold demand_Deadline.f at h
  obtain ⟨e0, he0, h⟩ := Option.bind_eq_some_iff.1 h
  have HCK := demand_Valid.calls k A0 c0 l0 e0 w hr0 hc0 he0
  have HR0 := Aside0.mk hr0
  have HC0 := Aside0.mk hc0
  have HCC := Aside0.mk HCK
  clear hr0 hc0 HCK he0
  by_cases h1 : e0.isSome = true
  · rw [if_pos h1] at h
    obtain ⟨rfl, rfl⟩ : [] = r1 ∧ e0 = r2 := by simpa using h
    clear h
    obtain ⟨ec, rfl⟩ := Option.isSome_iff_exists.1 h1
    clear h1
    have hne := errW_some ec
    go_enter Try.func20, Try.ntmps20
    go_wp2_with (first | (go_at_call 24; refine HCC.out.mono ?_; rintro e w1 ⟨rfl, hb⟩; have HB := Aside0.mk hb; clear hb; try simp only [errW_some]))
    go_ret2
    exact ⟨_, rfl, Kd.R_nil _ _ _ _ _, HB.out⟩
  · rw [if_neg h1] at h
    obtain rfl : e0 = none := by cases e0 with | none => rfl | some x => exact absurd rfl h1
    clear h1
    by_cases hn8 : l0.length ≤ 8
    case neg => rw [if_neg hn8] at h; exact absurd h (by simp)
    rw [if_pos hn8] at h
    obtain ⟨rfl, rfl⟩ : outA l0 (rkN l0 l0.length) = r1 ∧ none = r2 := by simpa using h
    have HN8 := Aside0.mk hn8
    clear h
    have hmk22 : ∀ W : World, l0.length ≤ 8 → (Instr.makeSlice 22 (.int .i64 (l0.length : Int)) (.int .i64 (l0.length : Int))).run Try.prog W = .ok (.slice (some ⟨W.heap.size, 0, none⟩) l0.length l0.length) (W.alloc (.cells (madeCells #[Value.int .i64 0, .int .i64 0, .int .i64 0, .int .i64 0] (l0.length * 4)) 39)) := by
      intro W hl
      obtain ⟨i0, hi, hzz⟩ := Option.map_eq_some_iff.1 info39
      simp only [Prod.mk.injEq] at hzz
      obtain ⟨hz0, hz1, hz2⟩ := hzz
      have := run_make (P := Try.prog) W 22 39 i0 (.agg #[.int .i64 0, .int .i64 0, .int .i64 0, .int .i64 0]) Try.underlying22 hi hz0 .i64 .i64 (l0.length : Int) (l0.length : Int) (by omega) (by omega) (by rw [hz2]; omega) (by omega)
      rw [hz1] at this
      simp only [Int.toNat_natCast] at this
      exact this
    have hmk := fun W => hmk22 W hn8
    clear hmk22
    have hne := errW_none
    go_enter Try.func20, Try.ntmps20
    go_upto_region 5 with (first | (go_at_call 24; refine HCC.out.mono ?_; rintro e w1 ⟨rfl, hb⟩; have HB := Aside0.mk hb; clear hb HCC; try simp only [errW_none]))
    have HRM := Aside0.mk (R_made w1 l0.length (by simp only [maxLen]; omega))
    have HBM := Aside0.mk (show Below w1.heap.size w1 (w1.alloc (.cells (madeCells #[Value.int .i64 0, .int .i64 0, .int .i64 0, .int .i64 0] (l0.length * 4)) 39)) from (Below.refl _ w1).alloc (Nat.le_refl _) _)
    generalize w1.alloc (.cells (madeCells #[Value.int .i64 0, .int .i64 0, .int .i64 0, .int .i64 0] (l0.length * 4)) 39) = wm at HRM HBM ⊢
    have HA : copyrow.f (List.replicate l0.length z39) l0 = some ((l0.length : Int), l0) := by unfold copyrow.f; rw [if_pos (by simp)]
    go_upto_region 6 with (first | ((with_reducible refine gate_builtin (b := .copy) rfl ?_); refine copyL_ rfl ?_; (refine (copyrow.calls (fun k_ => k_ = w1.heap.size) (.slice (some ⟨w1.heap.size, 0, none⟩) l0.length l0.length) (List.replicate l0.length z39) _ _ l0 _ l0 w1 _ ?side1 ?side2 ?side3 ?side4 HA rfl rfl rfl).mono ?_); (case side1 => exact HBM.out); (case side2 => exact Kd.R_reok rfl HRM.out (fun k_ e_ => by injection e_ with e_; exact e_.symm)); (case side3 => exact Kd.C_kept_came k39_heap (Kd.C_below HR0.out HB.out) HBM.out (fun k_ hs_ => (fun e_ => by omega) hs_)); (case side4 => exact HC0.out); rintro e w2 ⟨rfl, hy0, hb, hkp⟩; refine ⟨_, rfl, ?_⟩; have HY := Aside0.mk hy0; have HB2 := Aside0.mk hb; clear hy0 hb hkp))
    have hla := cells_of_R (Kd.R_mono HY.out (fun _ _ => trivial) : Kd.R k39 39 w2 w1.heap.size (fun _ => True) _ _)
    have HLA := Aside0.mk hla
    have ha2 := hla.lt
    obtain ⟨a, ha⟩ : ∃ a, a = w1.heap.size := ⟨_, rfl⟩
    rw [← ha] at HLA ha2 ⊢
    have HWA := Aside0.mk (show w.heap.size ≤ a ∧ a < w2.heap.size from by have := HB.out.size; omega)
    have HBX := Aside0.mk (show Below w.heap.size w w2 from HB.out.trans (HB2.out.mono HB.out.size))
    have HA1 := Aside0.mk ha
    clear HRM HBM HY HA hmk hla ha2 ha
    have HOC := Aside0.mk (demand_orderD.calls A0 c0 l0 () (ordD l0) w2 (Kd.C_below HR0.out HBX.out) HC0.out (by unfold demand_orderD.f; rw [if_pos (by omega)]))
    have HOL := Aside0.mk (ordD_len l0)
    go_wp2_with (first | (go_at_call 28; refine HOC.out.mono ?_; rintro e w3 ⟨vo, rfl, ho, hb⟩; obtain ⟨Ao, co, rfl⟩ := Kd.R_slice ho; have HO := Aside0.mk (Kd.R_mono (Kd.R_bound ho) (ok' := fun k_ => k_ ≠ a) (fun k_ hk => by have := HWA.out; have := hk.2.1; omega)); have HB3 := Aside0.mk hb; clear ho hb))
    have HLA3 := Aside0.mk (HLA.out.same (HB3.out.block a HWA.out.2))
    have HB4 := Aside0.mk (show Below w1.heap.size w1 w3 from HB2.out.trans (HB3.out.mono HB2.out.size))
    rw [HOL.out]
    go_loopg [25] l0.length (fun gg v25 wr => ∃ r : Nat, r ≤ l0.length ∧ v25 = .int .i64 (r : Int) ∧ l0.length - r ≤ gg ∧ Aside0 (CellsAt wr a (l0.length * 4) 39 (outV l0 (rkN l0 r))) ∧ Aside0 (Kd.R (Kd.int .i64) 3 wr w2.heap.size (fun k_ => k_ ≠ a) (.slice Ao (ordD l0).length co) (ordD l0)) ∧ Aside0 (Below w1.heap.size w1 wr))
    case atStart => exact ⟨0, by omega, rfl, by omega, HLA3, HO, HB4⟩
    case round =>
      clear HO HLA3 HB4 HLA
      obtain ⟨r, hr, rfl, hgg, HL, HO, HB4⟩ := hrel
      by_cases hlt : r < l0.length
      · have hltz : (r : Int) < (l0.length : Int) := by omega
        have hltd : decide ((r : Int) < (l0.length : Int)) = true := decide_eq_true hltz
        have hr0 : 0 ≤ (r : Int) := by omega
        obtain ⟨j, hj, hjn⟩ := ordD_rd hlt
        obtain ⟨ad, e1, x0⟩ := Kd.at_int (Kd.R_reads' HO.out).2.2 (r : Int) hr0 (by rw [HOL.out]; exact hltz)
        cases e1
        rw [hj] at x0
        simp only [Int.toNat_natCast] at x0
        have hjz : (j : Int) < (l0.length : Int) := by omega
        have hj0 : 0 ≤ (j : Int) := by omega
        have hc1 := (HL.out.rd (show j * 4 + 3 < l0.length * 4 by omega)).1
        have hc2 := (HL.out.rd (show j * 4 + 3 < l0.length * 4 by omega)).2
        have hl2 := HL.out.set (show j * 4 + 3 < l0.length * 4 by omega) (.int .i64 (r : Int))
        rw [outV_set] at hl2
        have HL2 := Aside0.mk (show CellsAt (wr.setCell ⟨a, j * 4 + 3, none⟩ (.int .i64 (r : Int))) a (l0.length * 4) 39 (outV l0 (rkN l0 (r + 1))) from by
          show CellsAt _ a _ 39 (outV l0 (setP (rkN l0 r) (rd (ordD l0) (r : Int)).toNat (r : Int)))
          rw [hj]; exact hl2)
        have HO2 := Aside0.mk (Kd.R_far (p := ⟨a, j * 4 + 3, none⟩) HO.out (fun _ hk => hk) (.int .i64 (r : Int)))
        have HB5 := Aside0.mk (below_set (j := j * 4 + 3) (v := .int .i64 (r : Int)) HB4.out (Nat.le_of_eq HA1.out.symm))
        clear hl2 hj
        rw [HOL.out] at HO
        try simp only [HOL.out]
        go_wp2_with (fail)
        go_roundg (l0.length - (r + 1))
        case measure => omega
        case rel => exact ⟨r + 1, by omega, by first | rfl | (congr 1; unfold wrap64; omega) | (congr 1; omega), by omega, HL2, HO2, HB5⟩
      · obtain rfl : r = l0.length := by omega
        have hltd : decide ((l0.length : Int) < (l0.length : Int)) = false := decide_eq_false (by omega)
        go_wp2_with (fail)
        go_ret2
        exact ⟨_, rfl, R_of_cells HL.out HWA.out.1 (by have := HN8.out; simp only [maxLen]; omega), HB.out.trans (HB4.out.mono HB.out.size)⟩
set_option maxHeartbeats 8000000 in
theorem demand_Deadline.calls (k : Nat) (A0 : Option Addr) (c0 : Nat) (l0 : List (S39)) (r1 : List (S39)) (r2 : Option Int) (w : World) (hr0 : Kd.C k39 w A0 l0.length l0) (hc0 : l0.length ≤ c0) (h : demand_Deadline.f k l0 = some (r1, r2)) :
    Calls Try.prog 11 #[.slice A0 l0.length c0] w fun e w' => ∃ v0_ : Value, e = .returned (.tuple #[v0_, errW r2]) ∧ Kd.R k39 39 w' w.heap.size (fun _ => True) v0_ r1 ∧ Below w.heap.size w w' := by
  have HCC := Aside0.mk (ranked_due k A0 c0 l0 r1 r2 w hr0 hc0 h)
  clear hr0 hc0 h
  generalize errW r2 = ev at HCC ⊢
  go_enter Try.func11, Try.ntmps11
  go_wp2_with (first | (go_at_call 20; refine HCC.out.mono ?_; rintro e w1 ⟨v0, rfl, ho, hb⟩; have HO := Aside0.mk ho; have HB := Aside0.mk hb; clear ho hb))
  go_ret2
  exact ⟨_, rfl, HO.out, HB.out⟩
end Go.Proofs.Ytffckkjaeekanaa.B
