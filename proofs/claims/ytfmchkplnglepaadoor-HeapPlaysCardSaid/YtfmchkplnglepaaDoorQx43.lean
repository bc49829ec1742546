/- Proved here: what the machine does at calls of the functions that the laws reach is what plain functions of the same names say, or a row of the given statement out of that. No conditions. Written by a program of this session over the printer of the kit. -/
import Derived.Test.YtfmchkplnglepaaDoorQx0
import Derived.Test.YtfmchkplnglepaaDoorQx41
namespace Go.Proofs.YtfmchkplnglepaaDoor.Q
open Go.RowKit Go.Proofs.YtfmchkplnglepaaDoorW.PrintWords Go.Proofs.YtfmchkplnglepaaDoorW.PrintLast Go.Proofs.YtfmchkplnglepaaDoorW.PrintMore
attribute [local go_sem] max2_int min2_int max_two min_two max_three min_three max_four min_four   -- for this text's walks alone
set_option linter.unusedVariables false
set_option linter.unusedSimpArgs false

/-! ### titheref05_Drop: function 29 -/
def titheref05_Drop.f (k : Nat) (l0 : List (S89)) (a1 : Int) : Option ((List (S89)) × Int) := (titheref05_place.f k l0 a1).bind fun t189 => (if t189 < 0 then (some (l0, 50)) else (if 0 ≤ t189 then (if t189 ≤ (l0.length : Int) then ((some (l0.take (t189 : Int).toNat : List (S89))).bind fun y190 => (if ([] : List (S89)).length + y190.length < 8796093022208 then ((some (([] : List (S89)) ++ y190 : List (S89))).bind fun y194 => (if 0 ≤ (wrap64 (t189 + 1)) then (if (wrap64 (t189 + 1)) ≤ (l0.length : Int) then ((some (l0.drop ((wrap64 (t189 + 1)) : Int).toNat : List (S89))).bind fun y197 => (if y194.length + y197.length < 8796093022208 then (some ((y194 ++ y197), 0)) else (none))) else (none)) else (none))) else (none))) else (none)) else (none)))
theorem titheref05_Drop.mono : ∀ a0 a1 k, LeO (titheref05_Drop.f k a0 a1) (titheref05_Drop.f (k + 1) a0 a1) := by
 intro a0 a1 k
 unfold titheref05_Drop.f
 repeat' first
   | (with_reducible exact titheref05_place.mono _ _ _)
   | (with_reducible exact LeO.refl _)
   | (with_reducible exact LeO.none _)
   | (with_reducible refine LeO.ite ?_ ?_)
   | (with_reducible refine LeO.bind ?_ (fun _ => ?_))
   | exact titheref05_place.mono _ _ _
   | exact LeO.none _
   | refine LeO.ite ?_ ?_
   | refine LeO.bind ?_ (fun _ => ?_)
set_option maxHeartbeats 8000000 in
set_option maxRecDepth 100000 in
theorem titheref05_Drop.calls (k : Nat) (P0_ : Nat → Prop) (u9000_ : Value) (l0 : List (S89)) (a1 : Int) (r1 : List (S89)) (r2 : Int) (w0 w : World) (hB : Below w0.heap.size w0 w) (ho0 : Kd.R k89 89 w w0.heap.size P0_ u9000_ l0) (h : titheref05_Drop.f k l0 a1 = some (r1, r2)) :
  Calls Tryd.prog 29 #[u9000_, .int .i64 a1] w fun e w' => ∃ v0_ : Value, e = .returned (.tuple #[v0_, .int .i64 r2]) ∧ Kd.R k89 89 w' w0.heap.size (fun k_ => (P0_ k_ ∨ w.heap.size ≤ k_)) v0_ r1 ∧ Below w0.heap.size w0 w' ∧ Kept w w' (fun k_ => P0_ k_) := by
 have HO0 := Aside0.mk (show Kd.R k89 89 w w0.heap.size (fun k_ => (P0_ k_ ∨ w.heap.size ≤ k_)) u9000_ l0 from Kd.R_mono ho0 (fun k_ hk => (.inl hk)))
 have HK := Aside0.mk (Kept.refl w (fun k_ => P0_ k_))
 have HW0 := Aside0.mk hB.size
 have HB := Aside0.mk hB
 clear hB
 have H : ((titheref05_place.f k l0 a1).bind fun t189 => (if t189 < 0 then (some (l0, 50)) else (if 0 ≤ t189 then (if t189 ≤ (l0.length : Int) then ((some (l0.take (t189 : Int).toNat : List (S89))).bind fun y190 => (if ([] : List (S89)).length + y190.length < 8796093022208 then ((some (([] : List (S89)) ++ y190 : List (S89))).bind fun y194 => (if 0 ≤ (wrap64 (t189 + 1)) then (if (wrap64 (t189 + 1)) ≤ (l0.length : Int) then ((some (l0.drop ((wrap64 (t189 + 1)) : Int).toNat : List (S89))).bind fun y197 => (if y194.length + y197.length < 8796093022208 then (some ((y194 ++ y197), 0)) else (none))) else (none)) else (none))) else (none))) else (none)) else (none)))) = some (r1, r2) := h
 clear h
 replace H := Option.bind_eq_some_iff.mp H
 obtain ⟨t189, A30, H⟩ := H
 replace H : (if t189 < 0 then (some (l0, 50)) else (if 0 ≤ t189 then (if t189 ≤ (l0.length : Int) then ((some (l0.take (t189 : Int).toNat : List (S89))).bind fun y190 => (if ([] : List (S89)).length + y190.length < 8796093022208 then ((some (([] : List (S89)) ++ y190 : List (S89))).bind fun y194 => (if 0 ≤ (wrap64 (t189 + 1)) then (if (wrap64 (t189 + 1)) ≤ (l0.length : Int) then ((some (l0.drop ((wrap64 (t189 + 1)) : Int).toNat : List (S89))).bind fun y197 => (if y194.length + y197.length < 8796093022208 then (some ((y194 ++ y197), 0)) else (none))) else (none)) else (none))) else (none))) else (none)) else (none))) = some (r1, r2) := H
 have A3 := Aside0.mk A30
 clear A30
 by_cases c4 : t189 < 0
 ·rw [if_pos c4] at H
  have c4b0 : decide (t189 < 0) = true := decide_eq_true c4
  clear c4
  simp only [Option.some.injEq, Prod.mk.injEq] at H
  obtain ⟨rfl, rfl⟩ := H
  obtain ⟨Ao5, co5, eo5⟩ := Kd.R_slice HO0.out
  subst eo5
  go_enter Tryd.func29, Tryd.ntmps29
  go_wp2_with (first | ((with_reducible refine gate_callee (f := 44) rfl ?_); refine goesL_ (some 10) rfl rfl Tryd.func44 (by kernel_rfl) rfl #[.slice Ao5 l0.length co5, .int .i64 a1] rfl (by (try simp only [List.map_toArray, List.map_cons, List.map_nil]); first | done | rfl | (simp only [List.length_drop, List.length_take]; rfl)) ?_; (with_reducible refine (titheref05_place.calls k _ _ l0 a1 t189 _ ?side1 ?side2 A3.out).mono ?_); (case side1 => repeat (first | exact (Kd.R_reads' HO0.out).2.2 | (with_reducible refine Kd.C_alloc ?_ _) | (with_reducible refine Kd.C_drewN ?_ _) | (with_reducible refine Kd.C_drew ?_))); (case side2 => exact (Kd.R_reads' HO0.out).2.1); rintro e w' ⟨rfl, ⟨nd, rfl⟩⟩; refine ⟨_, rfl, ?_⟩))
  go_ret2
  exact ⟨_, by first | rfl | (simp [errW_none, errW_some] <;> rfl) | (simp [*, errW_none, errW_some] <;> rfl), by (with_reducible repeat (first | apply Kd.R_alloc | apply Kd.R_drewN | apply Kd.R_drew)); exact HO0.out, by repeat (first | (with_reducible first | exact HB.out | apply below_alloc | apply pw_below_drewN | apply below_drew1) | exact HB.out), by repeat (first | (with_reducible first | exact HK.out | apply Kept.alloc | apply Kept.drewN | apply Kept.drew) | exact HK.out)⟩
 ·rw [if_neg c4] at H
  have c4b0 : decide (t189 < 0) = false := decide_eq_false c4
  clear c4
  by_cases c6 : 0 ≤ t189
  ·rw [if_pos c6] at H
   have c6b0 := eq_true c6
   have c6b1 : decide (0 ≤ t189) = true := decide_eq_true c6
   clear c6
   by_cases c7 : t189 ≤ (l0.length : Int)
   ·rw [if_pos c7] at H
    have c7b0 := eq_true c7
    have c7b1 : decide (t189 ≤ (l0.length : Int)) = true := decide_eq_true c7
    clear c7
    obtain ⟨y190, hy190⟩ : ∃ y_ : List (S89), y_ = (l0.take (t189 : Int).toNat) := ⟨_, rfl⟩
    replace H : (if ([] : List (S89)).length + y190.length < 8796093022208 then ((some (([] : List (S89)) ++ y190 : List (S89))).bind fun y194 => (if 0 ≤ (wrap64 (t189 + 1)) then (if (wrap64 (t189 + 1)) ≤ (l0.length : Int) then ((some (l0.drop ((wrap64 (t189 + 1)) : Int).toNat : List (S89))).bind fun y197 => (if y194.length + y197.length < 8796093022208 then (some ((y194 ++ y197), 0)) else (none))) else (none)) else (none))) else (none)) = some (r1, r2) := by first | (rw [hy190]; with_reducible exact H) | (have H2_ := (Option.bind_some _ _).symm.trans H; rw [hy190]; with_reducible exact H2_) | (have H2_ := (Option.bind_some _ _).symm.trans H; with_reducible exact H2_) | with_reducible exact H | (rw [hy190]; exact H) | exact H
    have Ny190 := Aside0.mk hy190
    clear hy190
    by_cases c8 : ([] : List (S89)).length + y190.length < 8796093022208
    ·rw [if_pos c8] at H
     have LMc8 := Aside0.mk c8
     clear c8
     obtain ⟨y194, hy194⟩ : ∃ y_ : List (S89), y_ = (([] : List (S89)) ++ y190) := ⟨_, rfl⟩
     replace H : (if 0 ≤ (wrap64 (t189 + 1)) then (if (wrap64 (t189 + 1)) ≤ (l0.length : Int) then ((some (l0.drop ((wrap64 (t189 + 1)) : Int).toNat : List (S89))).bind fun y197 => (if y194.length + y197.length < 8796093022208 then (some ((y194 ++ y197), 0)) else (none))) else (none)) else (none)) = some (r1, r2) := by first | (rw [hy194]; with_reducible exact H) | (have H2_ := (Option.bind_some _ _).symm.trans H; rw [hy194]; with_reducible exact H2_) | (have H2_ := (Option.bind_some _ _).symm.trans H; with_reducible exact H2_) | with_reducible exact H | (rw [hy194]; exact H) | exact H
     have Ny194 := Aside0.mk hy194
     clear hy194
     obtain ⟨ji9, hji9⟩ : ∃ j_ : Int, (wrap64 (t189 + 1)) = j_ := ⟨_, rfl⟩
     replace H : (if 0 ≤ (ji9) then (if (ji9) ≤ (l0.length : Int) then ((some (l0.drop ((ji9) : Int).toNat : List (S89))).bind fun y197 => (if y194.length + y197.length < 8796093022208 then (some ((y194 ++ y197), 0)) else (none))) else (none)) else (none)) = some (r1, r2) := by first | (rw [hji9] at H; exact H) | (simp only [hji9] at H ⊢; exact H)
     (try rw [hji9] at A3)
     have hji9w : (IntKind.i64.wrap (t189 + 1)) = ji9 := (i64_w _).trans hji9
     by_cases c10 : 0 ≤ (ji9)
     ·rw [if_pos c10] at H
      have c10b0 := eq_true c10
      have c10b1 : decide (0 ≤ (ji9)) = true := decide_eq_true c10
      clear c10
      by_cases c11 : (ji9) ≤ (l0.length : Int)
      ·rw [if_pos c11] at H
       have c11b0 := eq_true c11
       have c11b1 : decide ((ji9) ≤ (l0.length : Int)) = true := decide_eq_true c11
       clear c11
       obtain ⟨y197, hy197⟩ : ∃ y_ : List (S89), y_ = (l0.drop ((ji9) : Int).toNat) := ⟨_, rfl⟩
       replace H : (if y194.length + y197.length < 8796093022208 then (some ((y194 ++ y197), 0)) else (none)) = some (r1, r2) := by first | (rw [hy197]; with_reducible exact H) | (have H2_ := (Option.bind_some _ _).symm.trans H; rw [hy197]; with_reducible exact H2_) | (have H2_ := (Option.bind_some _ _).symm.trans H; with_reducible exact H2_) | with_reducible exact H | (rw [hy197]; exact H) | exact H
       have Ny197 := Aside0.mk hy197
       clear hy197
       by_cases c12 : y194.length + y197.length < 8796093022208
       ·rw [if_pos c12] at H
        have LMc12 := Aside0.mk c12
        clear c12
        obtain ⟨y201, hy201⟩ : ∃ y_ : List (S89), y_ = (y194 ++ y197) := ⟨_, rfl⟩
        replace H : (some (y201, 0)) = some (r1, r2) := by first | (rw [hy201]; with_reducible exact H) | (have H2_ := (Option.bind_some _ _).symm.trans H; rw [hy201]; with_reducible exact H2_) | (have H2_ := (Option.bind_some _ _).symm.trans H; with_reducible exact H2_) | with_reducible exact H | (rw [hy201]; exact H) | exact H
        have Ny201 := Aside0.mk hy201
        clear hy201
        simp only [Option.some.injEq, Prod.mk.injEq] at H
        obtain ⟨rfl, rfl⟩ := H
        obtain ⟨Ao13, co13, eo13⟩ := Kd.R_slice HO0.out
        subst eo13
        go_enter Tryd.func29, Tryd.ntmps29
        go_wp2_with (first | ((with_reducible refine gate_callee (f := 44) rfl ?_); refine goesL_ (some 10) rfl rfl Tryd.func44 (by kernel_rfl) rfl #[.slice Ao13 l0.length co13, .int .i64 a1] rfl (by (try simp only [List.map_toArray, List.map_cons, List.map_nil]); first | done | rfl | (simp only [List.length_drop, List.length_take]; rfl)) ?_; (with_reducible refine (titheref05_place.calls k _ _ l0 a1 t189 _ ?side1 ?side2 A3.out).mono ?_); (case side1 => repeat (first | exact (Kd.R_reads' HO0.out).2.2 | (with_reducible refine Kd.C_alloc ?_ _) | (with_reducible refine Kd.C_drewN ?_ _) | (with_reducible refine Kd.C_drew ?_))); (case side2 => exact (Kd.R_reads' HO0.out).2.1); rintro e w' ⟨rfl, ⟨nd, rfl⟩⟩; refine ⟨_, rfl, ?_⟩; have q14 : (t189 : Int) ≤ ((l0.length : Int) : Int) := of_decide_eq_true (by first | (with_reducible assumption) | assumption); obtain ⟨i014, hi014, _, hsz14, _⟩ := info_parts info89; have hroom14 : l0.length ≤ co13 := (Kd.R_reads' HO0.out).2.1; have hC14 : Kd.C k89 _ Ao13 l0.length l0 := (Kd.R_reads' HO0.out).2.2; have hcut14 := cut_to (P := Tryd.prog) 60 89 .i64 Tryd.underlying60 hi014 Ao13 l0.length co13 t189 (of_decide_eq_true (by first | (with_reducible assumption) | assumption)) q14 hroom14; have hr14 := Kd.C_take (m := (t189 : Int).toNat) hC14 (by omega); have hy14 : y190.length = (t189 : Int).toNat := (by rw [Ny190.out, List.length_take]; omega); rw [← Ny190.out] at hr14; rw [← hy14] at hcut14; have HR193 := Aside0.mk hr14; have HC193 := Aside0.mk (show y190.length ≤ co13 from by omega); clear hr14 hC14 hroom14 hi014 hsz14; have KY14 := Aside0.mk hy14; clear hy14; have KL14 := Aside0.mk (show (t189 : Int).toNat ≤ l0.length from by omega); replace q14 := eq_true q14) | ((with_reducible refine gate_builtin (b := .append) (xs := #[.tmp 14, .tmp 17]) rfl ?_); at_builtin; refine Kd.R_append_rows k89 (w0 := w0) w0.heap.size rfl (.tmp 14) (.tmp 17) 60 89 (.agg #[(.int .i64 0), (.int .i64 0)]) 16 rfl Tryd.underlying60 info89 rfl (by decide) (by omega) (.slice none 0 0) ([] : List (S89)) y190 _ _ _ (fun k_ => (P0_ k_ ∨ w.heap.size ≤ k_) ∧ some k_ ≠ (.slice Ao13 l0.length co13 : Value).ownBlock) (fun _ => False) rfl rfl ?aO ?aR (fun _ _ h => h) (fun _ h => h.elim) ?aF ?aB ?aS ?aL ?_; (case aR => repeat (first | exact (by repeat (first | (with_reducible exact HR193.out) | (with_reducible refine Kd.C_alloc ?_ _) | (with_reducible refine Kd.C_drewN ?_ _) | (with_reducible refine Kd.C_drew ?_) | exact HR193.out)) | (with_reducible refine Kd.C_alloc ?_ _) | (with_reducible refine Kd.C_drewN ?_ _) | (with_reducible refine Kd.C_drew ?_))); (case aB => exact (by repeat (first | (with_reducible first | exact HB.out | apply below_alloc | apply pw_below_drewN | apply below_drew1) | exact HB.out))); (case aF => exact (fun k_ hk => ⟨(.inr (Nat.le_trans (by first | exact HK.out.1 | exact (show Kept w _ (fun k_ => P0_ k_) from by repeat (first | (with_reducible first | exact HK.out | apply Kept.alloc | apply Kept.drewN | apply Kept.drew) | exact HK.out)).1) hk)), Kd.fresh' (Kd.R_lt (by (with_reducible repeat (first | apply Kd.R_alloc | apply Kd.R_drewN | apply Kd.R_drew)); exact HO0.out)) k_ hk⟩)); (case aO => exact ((Kd.R_nil _ _ _ _ (fun k_ => (P0_ k_ ∨ w.heap.size ≤ k_) ∧ some k_ ≠ (.slice Ao13 l0.length co13 : Value).ownBlock)))); (case aS => exact (below_size (by repeat (first | (with_reducible first | exact HB.out | apply below_alloc | apply pw_below_drewN | apply below_drew1) | exact HB.out)))); (case aL => have := LMc8.out; omega); intro v195 w15 ho hb hg hat; rw [← Ny194.out] at ho; have n0_ := Aside0.mk (Kd.R_after (Kd.R_apart_nil (by (with_reducible repeat (first | apply Kd.R_alloc | apply Kd.R_drewN | apply Kd.R_drew)); exact HO0.out)) hg hat); have n1_ := Aside0.mk (hb); have n2_ := Aside0.mk (Kept.of_grown (S := (fun k_ => P0_ k_)) hg (by repeat (first | (with_reducible first | exact HK.out | apply Kept.alloc | apply Kept.drewN | apply Kept.drew) | exact HK.out)) (fun k_ e_ => by simp [Value.ownBlock] at e_)); have n3_ := Aside0.mk ((show Kd.C k89 w15 Ao13 y190.length y190 from by rw [Ny190.out]; exact Kd.C_take (m := (t189 : Int).toNat) ((Kd.R_reads' (Kd.R_after (Kd.R_apart_nil (by (with_reducible repeat (first | apply Kd.R_alloc | apply Kd.R_drewN | apply Kd.R_drew)); exact HO0.out)) hg hat)).2.2) KL14.out)); have n4_ := Aside0.mk (ho); clear HO0; clear HB; clear HK; clear HR193; have HO0 := n0_; have HB := n1_; have HK := n2_; have HR193 := n3_; have HO196 := n4_; clear n0_ n1_ n2_ n3_ n4_; clear ho hb hg hat; have q16 : ((ji9) : Int) ≤ ((l0.length : Int) : Int) := of_decide_eq_true (by first | (with_reducible assumption) | assumption); obtain ⟨i016, hi016, _, hsz16, _⟩ := info_parts info89; have hroom16 : l0.length ≤ co13 := (Kd.R_reads' HO0.out).2.1; have hC16 : Kd.C k89 _ Ao13 l0.length l0 := (Kd.R_reads' HO0.out).2.2; have q016 : (0 : Int) ≤ ((ji9) : Int) := of_decide_eq_true (by first | (with_reducible assumption) | assumption); have hcut16 := cut_from (P := Tryd.prog) 60 89 .i64 Tryd.underlying60 hi016 2 hsz16 Ao13 l0.length co13 (ji9) q016 q16; have hr16 := Kd.C_drop (m := ((ji9) : Int).toNat) (c := co13) hC16 (by omega) hroom16; obtain ⟨A16, hA16⟩ : ∃ A1, A1 = (if co13 = ((ji9) : Int).toNat then Ao13 else (Ao13 : Option Addr).map (·.add (((ji9) : Int).toNat * 2))) := ⟨_, rfl⟩; obtain ⟨c16, hc16⟩ : ∃ c1, c1 = co13 - ((ji9) : Int).toNat := ⟨_, rfl⟩; have hy16 : y197.length = l0.length - ((ji9) : Int).toNat := (by rw [Ny197.out, List.length_drop] <;> omega); rw [show (l0).drop ((ji9) : Int).toNat = y197 from Ny197.out.symm] at hr16; replace hr16 : Kd.C k89 _ A16 y197.length y197 := (by rw [hA16]; exact hr16); rw [← hy16, ← hA16, ← hc16] at hcut16; have HR200 := Aside0.mk hr16; have HC200 := Aside0.mk (show y197.length ≤ c16 from by rw [hy16, hc16]; exact Nat.sub_le_sub_right hroom16 _); clear hr16 hC16 hroom16 hi016 hsz16 hc16; have KY16 := Aside0.mk hy16; have KA16 := Aside0.mk hA16; clear hy16 hA16; have KL16 := Aside0.mk (show ((ji9) : Int).toNat ≤ l0.length from by omega); replace q16 := eq_true q16) | ((with_reducible refine gate_builtin (b := .append) (xs := #[.tmp 19, .tmp 23]) rfl ?_); at_builtin; refine Kd.R_append_rows k89 (w0 := w0) w0.heap.size rfl (.tmp 19) (.tmp 23) 60 89 (.agg #[(.int .i64 0), (.int .i64 0)]) 16 rfl Tryd.underlying60 info89 rfl (by decide) (by omega) v195 y194 y197 _ _ _ (fun k_ => (P0_ k_ ∨ w.heap.size ≤ k_) ∧ some k_ ≠ (.slice Ao13 l0.length co13 : Value).ownBlock) (fun _ => False) rfl rfl ?aO ?aR (fun _ _ h => h) (fun _ h => h.elim) ?aF ?aB ?aS ?aL ?_; (case aR => repeat (first | exact (by repeat (first | (with_reducible exact HR200.out) | (with_reducible refine Kd.C_alloc ?_ _) | (with_reducible refine Kd.C_drewN ?_ _) | (with_reducible refine Kd.C_drew ?_) | exact HR200.out)) | (with_reducible refine Kd.C_alloc ?_ _) | (with_reducible refine Kd.C_drewN ?_ _) | (with_reducible refine Kd.C_drew ?_))); (case aB => exact (by repeat (first | (with_reducible first | exact HB.out | apply below_alloc | apply pw_below_drewN | apply below_drew1) | exact HB.out))); (case aF => exact (fun k_ hk => ⟨(.inr (Nat.le_trans (by first | exact HK.out.1 | exact (show Kept w _ (fun k_ => P0_ k_) from by repeat (first | (with_reducible first | exact HK.out | apply Kept.alloc | apply Kept.drewN | apply Kept.drew) | exact HK.out)).1) hk)), Kd.fresh' (Kd.R_lt (by (with_reducible repeat (first | apply Kd.R_alloc | apply Kd.R_drewN | apply Kd.R_drew)); exact HO0.out)) k_ hk⟩)); (case aO => exact (by (with_reducible repeat (first | apply Kd.R_alloc | apply Kd.R_drewN | apply Kd.R_drew)); exact HO196.out)); (case aS => exact (below_size (by repeat (first | (with_reducible first | exact HB.out | apply below_alloc | apply pw_below_drewN | apply below_drew1) | exact HB.out)))); (case aL => have := LMc12.out; omega); intro v202 w17 ho hb hg hat; rw [← Ny201.out] at ho; have n0_ := Aside0.mk (Kd.R_after (ok := (fun k_ => (P0_ k_ ∨ w.heap.size ≤ k_))) (by (with_reducible repeat (first | apply Kd.R_alloc | apply Kd.R_drewN | apply Kd.R_drew)); first | exact HO0.out | exact Kd.R_mono HO0.out (fun _ hk => ⟨hk.1, fun e_ => hk.2 (e_.trans ((show ∀ (A_ : Option Addr) (n_ m_ c_ d_ : Nat), (Value.slice A_ n_ c_).ownBlock = (Value.slice A_ m_ d_).ownBlock from fun A_ _ _ _ _ => by cases A_ <;> rfl) _ _ _ _ _))⟩) | exact Kd.V_mono HO0.out (fun _ hk => ⟨hk.1, fun e_ => hk.2 (e_.trans ((show ∀ (A_ : Option Addr) (n_ m_ c_ d_ : Nat), (Value.slice A_ n_ c_).ownBlock = (Value.slice A_ m_ d_).ownBlock from fun A_ _ _ _ _ => by cases A_ <;> rfl) _ _ _ _ _))⟩)) hg hat); have n1_ := Aside0.mk (hb); have n2_ := Aside0.mk (Kept.of_grown (S := (fun k_ => P0_ k_)) hg (by repeat (first | (with_reducible first | exact HK.out | apply Kept.alloc | apply Kept.drewN | apply Kept.drew) | exact HK.out)) (fun k_ e_ => (HO196.out.1 k_ e_).1)); have n3_ := Aside0.mk ((show Kd.C k89 w17 Ao13 y190.length y190 from by rw [Ny190.out]; exact Kd.C_take (m := (t189 : Int).toNat) ((Kd.R_reads' (Kd.R_after (ok := (fun k_ => (P0_ k_ ∨ w.heap.size ≤ k_))) (by (with_reducible repeat (first | apply Kd.R_alloc | apply Kd.R_drewN | apply Kd.R_drew)); first | exact HO0.out | exact Kd.R_mono HO0.out (fun _ hk => ⟨hk.1, fun e_ => hk.2 (e_.trans ((show ∀ (A_ : Option Addr) (n_ m_ c_ d_ : Nat), (Value.slice A_ n_ c_).ownBlock = (Value.slice A_ m_ d_).ownBlock from fun A_ _ _ _ _ => by cases A_ <;> rfl) _ _ _ _ _))⟩) | exact Kd.V_mono HO0.out (fun _ hk => ⟨hk.1, fun e_ => hk.2 (e_.trans ((show ∀ (A_ : Option Addr) (n_ m_ c_ d_ : Nat), (Value.slice A_ n_ c_).ownBlock = (Value.slice A_ m_ d_).ownBlock from fun A_ _ _ _ _ => by cases A_ <;> rfl) _ _ _ _ _))⟩)) hg hat)).2.2) KL14.out)); have n4_ := Aside0.mk ((show Kd.C k89 w17 A16 y197.length y197 from by rw [Ny197.out, KA16.out]; exact Kd.C_drop (m := ((ji9) : Int).toNat) (c := co13) ((Kd.R_reads' (Kd.R_after (ok := (fun k_ => (P0_ k_ ∨ w.heap.size ≤ k_))) (by (with_reducible repeat (first | apply Kd.R_alloc | apply Kd.R_drewN | apply Kd.R_drew)); first | exact HO0.out | exact Kd.R_mono HO0.out (fun _ hk => ⟨hk.1, fun e_ => hk.2 (e_.trans ((show ∀ (A_ : Option Addr) (n_ m_ c_ d_ : Nat), (Value.slice A_ n_ c_).ownBlock = (Value.slice A_ m_ d_).ownBlock from fun A_ _ _ _ _ => by cases A_ <;> rfl) _ _ _ _ _))⟩) | exact Kd.V_mono HO0.out (fun _ hk => ⟨hk.1, fun e_ => hk.2 (e_.trans ((show ∀ (A_ : Option Addr) (n_ m_ c_ d_ : Nat), (Value.slice A_ n_ c_).ownBlock = (Value.slice A_ m_ d_).ownBlock from fun A_ _ _ _ _ => by cases A_ <;> rfl) _ _ _ _ _))⟩)) hg hat)).2.2) KL16.out ((Kd.R_reads' (Kd.R_after (ok := (fun k_ => (P0_ k_ ∨ w.heap.size ≤ k_))) (by (with_reducible repeat (first | apply Kd.R_alloc | apply Kd.R_drewN | apply Kd.R_drew)); first | exact HO0.out | exact Kd.R_mono HO0.out (fun _ hk => ⟨hk.1, fun e_ => hk.2 (e_.trans ((show ∀ (A_ : Option Addr) (n_ m_ c_ d_ : Nat), (Value.slice A_ n_ c_).ownBlock = (Value.slice A_ m_ d_).ownBlock from fun A_ _ _ _ _ => by cases A_ <;> rfl) _ _ _ _ _))⟩) | exact Kd.V_mono HO0.out (fun _ hk => ⟨hk.1, fun e_ => hk.2 (e_.trans ((show ∀ (A_ : Option Addr) (n_ m_ c_ d_ : Nat), (Value.slice A_ n_ c_).ownBlock = (Value.slice A_ m_ d_).ownBlock from fun A_ _ _ _ _ => by cases A_ <;> rfl) _ _ _ _ _))⟩)) hg hat)).2.1))); have n5_ := Aside0.mk (ho); clear HO0; clear HB; clear HK; clear HR193; clear HR200; clear HO196; have HO0 := n0_; have HB := n1_; have HK := n2_; have HR193 := n3_; have HR200 := n4_; have HO203 := n5_; clear n0_ n1_ n2_ n3_ n4_ n5_; clear ho hb hg hat))
        go_ret2
        exact ⟨_, by first | rfl | (simp [errW_none, errW_some] <;> rfl) | (simp only [← hji9]; first | rfl | (simp [errW_none, errW_some] <;> rfl)) | (simp [*, errW_none, errW_some] <;> rfl), by (with_reducible repeat (first | apply Kd.R_alloc | apply Kd.R_drewN | apply Kd.R_drew)); exact Kd.R_mono HO203.out (fun _ hk => hk.1), by repeat (first | (with_reducible first | exact HB.out | apply below_alloc | apply pw_below_drewN | apply below_drew1) | exact HB.out), by repeat (first | (with_reducible first | exact HK.out | apply Kept.alloc | apply Kept.drewN | apply Kept.drew) | exact HK.out)⟩
       ·rw [if_neg c12] at H
        exact absurd H (by simp)
      ·rw [if_neg c11] at H
       exact absurd H (by simp)
     ·rw [if_neg c10] at H
      exact absurd H (by simp)
    ·rw [if_neg c8] at H
     exact absurd H (by simp)
   ·rw [if_neg c7] at H
    exact absurd H (by simp)
  ·rw [if_neg c6] at H
   exact absurd H (by simp)

end Go.Proofs.YtfmchkplnglepaaDoor.Q
