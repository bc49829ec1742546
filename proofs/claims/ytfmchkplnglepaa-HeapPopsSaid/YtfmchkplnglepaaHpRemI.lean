/- Proved here: what remove and Pop do to a heap, told by the row as it lies. No conditions. -/
import Derived.Test.YtfmchkplnglepaaHpPushI
namespace Go.Proofs.Ytfmchkplnglepaa.HpI
open Go.RowKit Go.Proofs.YtfmchkplnglepaaW.PrintWords Go.Proofs.YtfmchkplnglepaaW.PrintLast Go.Proofs.YtfmchkplnglepaaW.PrintMore
open Go Go.Maps Go.Proofs.Ytfmchkplnglepaa.Hp
set_option linter.unusedVariables false
set_option linter.unusedSimpArgs false
def cutL (es : List En) (i : Nat) : List En := (swp es i (es.length - 1)).take (es.length - 1)
def removeL (es : List En) (i : Nat) : List En := if i < es.length - 1 then downL ((cutL es i).length + 1) (upL (i + 1) (cutL es i) i) i else cutL es i
theorem upL_len (f : Nat) (es : List En) (i : Nat) : (upL f es i).length = es.length := swp_mem_iff f
theorem cutL_len (es : List En) (i : Nat) : (cutL es i).length = es.length - 1 := by unfold cutL; rw [List.length_take, swp_len]; omega
theorem rem_facts {P : Nat → Prop} {W : World} {g l : Nat} {xs : List En} (h : HP P g xs W) (hl : xs.length = l + 1) :
    ∃ (go c bm : Nat) (W3 : World), l ≤ c ∧ (∀ V : World, (V = W.drew ∨ V = W3) → V.cell? ⟨g, 0, none⟩ = some (.slice (some ⟨go, 0, none⟩) (l + 1) c) ∧ V.cell? ⟨g, 1, none⟩ = some (.map (some bm)) ∧ V.cell? ⟨go, l * 2, none⟩ = some (.int .i64 (xs.getD l z).1)) ∧
      (Builtin.delete_ #[54, 3] 0 #[.map (some bm), .int .i64 (xs.getD l z).1]).run Try.prog W.drew = .ok (.tuple #[]) W3 ∧ W3.frozen? ⟨g, 0, none⟩ = false ∧
      HP P g (xs.take l) (W3.setCell ⟨g, 0, none⟩ (.slice (some ⟨go, 0, none⟩) l c)) ∧ Off P W (W3.setCell ⟨g, 0, none⟩ (.slice (some ⟨go, 0, none⟩) l c)) := by
  have hlen := h.len
  have hwf := h.wf
  obtain ⟨A, c, bm, D, hb, hPg, hPm, hmg, hR, hM, hok, _, _⟩ := h
  obtain ⟨go, co, eo, gb, gl, cl, HGo⟩ := Kd.R_form hR (by omega)
  injection eo with ea en ec
  subst ea
  have hlc : xs.length ≤ c := (Kd.R_reads' hR).2.1
  have w1 := hwf _ (getD_mem' (es := xs) (m := l) (by omega))
  have hids : (xs.map (·.1)).length = xs.length := by simp
  obtain ⟨W3, hdel, hM3, ht3⟩ := hM.drew.drop law3 Try.underlying54 (key3 w1.1 w1.2) 0
  have hg3 := ht3.grown
  have hb3 : W3.heap[g]? = some (.cells #[.slice (some ⟨go, 0, none⟩) xs.length c, .map (some bm)] 66 (0, 0)) := blk_grown (w := W.drew) hb hg3 (fun e => hmg (Option.some.inj e).symm)
  have hR3 := Kd.R_grown (Kd.R_drew hR) hg3 (fun k hk e => hk.2.2 (Option.some.inj e))
  have hb4 := blk_set hb3 0 (.slice (some ⟨go, 0, none⟩) l c)
  have hR4 := Kd.R_far (Kd.R_take hR3 (m := l) (by omega)) (p := ⟨g, 0, none⟩) (fun k hk => hk.2.1) (.slice (some ⟨go, 0, none⟩) l c)
  have hM4 := hM3.kept (grown_set W3 g 0 (.slice (some ⟨go, 0, none⟩) l c)) (fun e => hmg (Option.some.inj e))
  have hOK := hok.pop (by omega)
  rw [hids, getD_fst, ← List.map_take, show xs.length - 1 = l from by omega] at hOK
  have hel := (elem_cells hR (i := l) (by omega)).1
  have hel3 := (elem_cells hR3 (i := l) (by omega)).1
  have htl : (xs.take l).length = l := by rw [List.length_take]; omega
  rw [hl] at hb hb3
  refine ⟨go, c, bm, W3, by omega, ?_, hdel, blk_frozen hb3 0, ?_, ?_⟩
  · rintro V (rfl | rfl)
    · exact ⟨cell_of_row W g 0 _ _ (0, 0) hb, cell_of_row W g 1 _ _ (0, 0) hb, hel⟩
    · exact ⟨cell_of_row _ g 0 _ _ (0, 0) hb3, cell_of_row _ g 1 _ _ (0, 0) hb3, hel3⟩
  · exact ⟨some ⟨go, 0, none⟩, c, bm, _, by rw [htl]; exact hb4, hPg, hPm, hmg, by rw [htl]; exact hR4, own_tight hM4, hOK, by omega, fun e he => hwf e (List.mem_of_mem_take he)⟩
  · exact ((Off.refl P W).drew.grown hg3 (fun k e => by cases e; exact hPm)).grown (grown_set W3 g 0 _) (fun k e => by cases e; exact hPg)
set_option maxHeartbeats 16000000 in
set_option maxRecDepth 100000 in
theorem remove_calls {P : Nat → Prop} {W : World} {g : Nat} {es : List En} {i : Nat} (h : HP P g es W) (hi : i < es.length) :
    Calls Try.prog 32 #[.pointer (some ⟨g, 0, none⟩), .int .i64 (i : Int)] W fun e W' => e = .returned (.tuple #[]) ∧ HP P g (removeL es i) W' ∧ Off P W W' := by
  have hlen := h.len
  obtain ⟨l, hl⟩ : ∃ l, es.length = l + 1 := ⟨es.length - 1, by omega⟩
  obtain ⟨go0, c0c, c0, _⟩ := h.look (by omega)
  have huP := Try.underlying46
  have huL := Try.underlying64
  have huE := Try.underlying68
  have huH := Try.underlying66
  have huM := Try.underlying54
  have HH := Aside0.mk h
  have HI := Aside0.mk (show i < es.length ∧ l < es.length from ⟨hi, by omega⟩)
  have hsl : (swp es i l).length = l + 1 := by rw [swp_len]; exact hl
  have hcut : cutL es i = (swp es i l).take l := by unfold cutL; rw [hl]; rfl
  have hcl : ((swp es i l).take l).length = l := by rw [List.length_take, hsl]; omega
  have HF := Aside0.mk (fun (V : World) (hV : HP P g (swp es i l) V) => rem_facts hV hsl)
  have e1_ := Aside0.mk (show IntKind.i64.wrap (((l + 1 : Nat) : Int) - 1) = (l : Int) by rw [i64_w]; unfold wrap64; omega)
  have e2_ := Aside0.mk (show wrap64 (((l + 1 : Nat) : Int) - 1) = (l : Int) by unfold wrap64; omega)
  have q0 : (0 ≤ (l : Int)) = True := eq_true (by omega)
  have q1 : ((l : Int) < ((l + 1 : Nat) : Int)) = True := eq_true (by omega)
  have HUP := Aside0.mk (fun (V : World) (hV : HP P g ((swp es i l).take l) V) (hil : i < l) => up_calls (i := i) hV (by omega))
  have HDN := Aside0.mk (fun (V : World) (hV : HP P g (upL (i + 1) ((swp es i l).take l) i) V) (hil : i < l) => down_calls (i := i) hV (by rw [upL_len]; omega))
  by_cases hil : i < l
  · have d1 : decide ((i : Int) < (l : Int)) = true := decide_eq_true (by omega)
    have d2 : decide (i < l) = true := decide_eq_true hil
    have HRL := Aside0.mk (show downL ((upL (i + 1) ((swp es i l).take l) i).length + 1) (upL (i + 1) ((swp es i l).take l) i) i = removeL es i from by
      unfold removeL; rw [if_pos (by omega), hcut, upL_len])
    have HIL := Aside0.mk hil
    rw [hl] at c0
    obtain ⟨n1, hn1⟩ : ∃ n1, l + 1 = n1 := ⟨_, rfl⟩
    have e1 := e1_.out
    have e2 := e2_.out
    rw [hn1] at e1 e2 c0 HF q1
    obtain ⟨xs, hxs⟩ : ∃ xs, swp es i l = xs := ⟨_, rfl⟩
    rw [hxs] at HF HUP HDN HRL
    have HXS := Aside0.mk hxs
    clear e1_ e2_ hl hsl hcut hcl hil h hi hlen hn1 hxs
    go_enter Try.func32, Try.ntmps32
    go_wp2_with (first
      | (go_at_call 38; refine (swap_calls (P := P) (es := es) (i := i) (j := l) HH.out HI.out.1 HI.out.2).mono ?_; rintro e w1 ⟨rfl, hh, ho⟩; rw [HXS.out] at hh; obtain ⟨go, c, bm, W3, hlc, hS, hdel, kf, hHP, hOff⟩ := HF.out w1 hh; have HS := Aside0.mk hS; have HU := Aside0.mk (show Ups P g (xs.take l) W _ from ⟨hHP, ho.trans hOff⟩); have KF := Aside0.mk kf; have q2 : ((l : Int) ≤ (c : Int)) = True := eq_true (by omega); clear hS hHP hOff hh ho kf c0 hlc)
      | go_in)
    obtain ⟨y, hy⟩ : ∃ y, xs.getD l z = y := ⟨_, rfl⟩
    rw [hy] at HS hdel
    clear hy
    go_region_held3 (fun V : World => V.cell? ⟨g, 0, none⟩ = some (.slice (some ⟨go, 0, none⟩) n1 c) ∧ V.cell? ⟨g, 1, none⟩ = some (.map (some bm)) ∧ V.cell? ⟨go, l * 2, none⟩ = some (.int .i64 y.1)) (first | exact HS.out _ (Or.inl rfl) | exact HS.out _ (Or.inr rfl)) (fail)
    all_goals have k1 := (HS.out W3 (Or.inr rfl)).1
    all_goals have kf := KF.out
    all_goals go_wp2_with (first
      | (go_at_call 27; refine (HUP.out _ (show Ups P g (xs.take l) W _ from by repeat (first | exact HU.out | apply Ups.drew | apply Ups.drewN | apply Ups.alloc)).1 HIL.out).mono ?_; rintro e w3 ⟨rfl, hh, ho⟩; have HU2 := Aside0.mk (show Ups P g _ W w3 from ⟨hh, (show Ups P g (xs.take l) W _ from by repeat (first | exact HU.out | apply Ups.drew | apply Ups.drewN | apply Ups.alloc)).2.trans ho⟩); clear hh ho)
      | (go_at_call 37; refine (HDN.out _ (show Ups P g (upL (i + 1) (xs.take l) i) W _ from by repeat (first | exact HU2.out | apply Ups.drew | apply Ups.drewN | apply Ups.alloc)).1 HIL.out).mono ?_; rintro e w4 ⟨rfl, hh, ho⟩; have HU3 := Aside0.mk (show Ups P g _ W w4 from ⟨hh, (show Ups P g (upL (i + 1) (xs.take l) i) W _ from by repeat (first | exact HU2.out | apply Ups.drew | apply Ups.drewN | apply Ups.alloc)).2.trans ho⟩); clear hh ho)
      | go_in)
    all_goals go_end0
    all_goals exact ⟨rfl, by rw [← HRL.out]; exact HU3.out.1, HU3.out.2⟩
  · have d1 : decide ((i : Int) < (l : Int)) = false := decide_eq_false (by omega)
    have d2 : decide (i < l) = false := decide_eq_false hil
    have HRL := Aside0.mk (show (swp es i l).take l = removeL es i from by
      unfold removeL; rw [if_neg (by omega), hcut])
    rw [hl] at c0
    obtain ⟨n1, hn1⟩ : ∃ n1, l + 1 = n1 := ⟨_, rfl⟩
    have e1 := e1_.out
    have e2 := e2_.out
    rw [hn1] at e1 e2 c0 HF q1
    obtain ⟨xs, hxs⟩ : ∃ xs, swp es i l = xs := ⟨_, rfl⟩
    rw [hxs] at HF HRL
    have HXS := Aside0.mk hxs
    clear e1_ e2_ hl hsl hcut hcl hil h hi hlen hn1 hxs HUP HDN
    go_enter Try.func32, Try.ntmps32
    go_wp2_with (first
      | (go_at_call 38; refine (swap_calls (P := P) (es := es) (i := i) (j := l) HH.out HI.out.1 HI.out.2).mono ?_; rintro e w1 ⟨rfl, hh, ho⟩; rw [HXS.out] at hh; obtain ⟨go, c, bm, W3, hlc, hS, hdel, kf, hHP, hOff⟩ := HF.out w1 hh; have HS := Aside0.mk hS; have HU := Aside0.mk (show Ups P g (xs.take l) W _ from ⟨hHP, ho.trans hOff⟩); have KF := Aside0.mk kf; have q2 : ((l : Int) ≤ (c : Int)) = True := eq_true (by omega); clear hS hHP hOff hh ho kf c0 hlc)
      | go_in)
    obtain ⟨y, hy⟩ : ∃ y, xs.getD l z = y := ⟨_, rfl⟩
    rw [hy] at HS hdel
    clear hy
    go_region_held3 (fun V : World => V.cell? ⟨g, 0, none⟩ = some (.slice (some ⟨go, 0, none⟩) n1 c) ∧ V.cell? ⟨g, 1, none⟩ = some (.map (some bm)) ∧ V.cell? ⟨go, l * 2, none⟩ = some (.int .i64 y.1)) (first | exact HS.out _ (Or.inl rfl) | exact HS.out _ (Or.inr rfl)) (fail)
    all_goals have k1 := (HS.out W3 (Or.inr rfl)).1
    all_goals have kf := KF.out
    all_goals go_wp2
    all_goals go_end0
    all_goals exact ⟨rfl, by rw [← HRL.out]; exact HU.out.1, HU.out.2⟩
def popL (es : List En) : List En := match es with
  | [] => []
  | _ :: _ => removeL es 0
set_option maxHeartbeats 16000000 in
set_option maxRecDepth 100000 in
theorem pop_calls {P : Nat → Prop} {W : World} {g : Nat} {es : List En} (h : HP P g es W) :
    Calls Try.prog 21 #[.pointer (some ⟨g, 0, none⟩)] W fun e W' => e = .returned (.tuple #[.int .i64 (first3 es).1, kv (first3 es).2.1, .bool (first3 es).2.2]) ∧ HP P g (popL es) W' ∧ Off P W W' := by
  have HM := Aside0.mk (min_calls h)
  cases es with
  | nil =>
    have HU := Aside0.mk (show Ups P g [] W W from ⟨h, Off.refl _ _⟩)
    clear h
    unfold kv at *
    simp only [first3] at HM ⊢
    go_enter Try.func21, Try.ntmps21
    go_wp2_with (first | (go_at_call 25; refine HM.out.mono ?_; rintro e W' ⟨rfl, n, rfl⟩) | go_in)
    go_ret3
    exact ⟨rfl, (show Ups P g [] W _ from HU.out.drewN _).1, (show Ups P g [] W _ from HU.out.drewN _).2⟩
  | cons x r =>
    have HU := Aside0.mk (show Ups P g (x :: r) W W from ⟨h, Off.refl _ _⟩)
    have HR := Aside0.mk (fun (V : World) (hV : HP P g (x :: r) V) => show Calls Try.prog 32 #[.pointer (some ⟨g, 0, none⟩), .int .i64 0] V fun e W' => e = .returned (.tuple #[]) ∧ HP P g (popL (x :: r)) W' ∧ Off P V W' from remove_calls (i := 0) hV (by simp))
    clear h
    unfold kv at *
    simp only [first3] at HM ⊢
    go_enter Try.func21, Try.ntmps21
    go_wp2_with (first
      | (go_at_call 25; refine HM.out.mono ?_; rintro e W' ⟨rfl, n, rfl⟩)
      | (go_at_call 32; refine (HR.out _ (HU.out.drewN _).1).mono ?_; rintro e w3 ⟨rfl, hh, ho⟩; have HU2 := Aside0.mk (show Ups P g (popL (x :: r)) W w3 from ⟨hh, (HU.out.drewN _).2.trans ho⟩); clear hh ho)
      | go_in)
    go_ret3
    exact ⟨rfl, HU2.out.1, HU2.out.2⟩
end Go.Proofs.Ytfmchkplnglepaa.HpI
