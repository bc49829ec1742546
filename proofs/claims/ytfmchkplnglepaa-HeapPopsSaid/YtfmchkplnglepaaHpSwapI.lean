/- Proved here: what swap does to a heap. No conditions. -/
import Derived.Test.YtfmchkplnglepaaHpStateI
namespace Go.Proofs.Ytfmchkplnglepaa.HpI
open Go.RowKit Go.Proofs.YtfmchkplnglepaaW.PrintWords Go.Proofs.YtfmchkplnglepaaW.PrintLast Go.Proofs.YtfmchkplnglepaaW.PrintMore
open Go Go.Maps Go.Proofs.Ytfmchkplnglepaa.Hp
set_option linter.unusedVariables false
set_option linter.unusedSimpArgs false
theorem swp_i {es : List En} {i j : Nat} (hi : i < es.length) (hj : j < es.length) : (swp es i j).getD i z = es.getD j z := by
  unfold swp
  simp only [List.getD_eq_getElem?_getD, List.getElem?_set, List.length_set]
  by_cases h : j = i
  · subst h; simp [hj]
  · simp [h, hi]
theorem swp_j {es : List En} {i j : Nat} (hi : i < es.length) (hj : j < es.length) : (swp es i j).getD j z = es.getD i z := by
  unfold swp
  simp only [List.getD_eq_getElem?_getD, List.getElem?_set, List.length_set]
  simp [hj]
theorem getD_mem' {es : List En} {m : Nat} (hm : m < es.length) : es.getD m z ∈ es := by rw [List.getD_eq_getElem?_getD, List.getElem?_eq_getElem hm]; exact List.getElem_mem hm
set_option maxHeartbeats 16000000 in
set_option maxRecDepth 100000 in
theorem swap_calls {P : Nat → Prop} {W : World} {g : Nat} {es : List En} {i j : Nat} (h : HP P g es W) (hi : i < es.length) (hj : j < es.length) :
    Calls Try.prog 38 #[.pointer (some ⟨g, 0, none⟩), .int .i64 (i : Int), .int .i64 (j : Int)] W fun e W' => e = .returned (.tuple #[]) ∧ HP P g (swp es i j) W' ∧ Off P W W' := by
  have hlen := h.len
  have hwf := h.wf
  obtain ⟨A, c, bm, D, hb, hPg, hPm, hmg, hR, hM, hok, _, _⟩ := h
  obtain ⟨go, co, eo, gb, gl, cl, HGo⟩ := Kd.R_form hR (by omega)
  injection eo with ea en ec
  subst ea
  subst ec
  clear en gb gl HGo cl
  obtain ⟨hPo, hog, hom⟩ := hR.1 go (by simp [Value.ownBlock])
  obtain ⟨hxi0, hxi1, fi0, fi1⟩ := elem_cells hR hi
  obtain ⟨hxj0, hxj1, fj0, fj1⟩ := elem_cells hR hj
  obtain ⟨xi, hxi⟩ : ∃ x, es.getD i z = x := ⟨_, rfl⟩
  obtain ⟨xj, hxj⟩ : ∃ x, es.getD j z = x := ⟨_, rfl⟩
  obtain ⟨hR1, hg1⟩ := R_run (P := Try.prog) (t := 68) (Kd.R_drew hR) i hi (u := .agg #[.int .i64 xj.1, kv xj.2]) (x' := es.getD j z) (okp := fun k => (P k ∧ k ≠ g ∧ k ≠ bm) ∧ k ≠ go) rfl (by kernel_rfl) (by intro q hq; simp [Value.cells] at hq; rcases hq with rfl | rfl <;> rfl) (by rw [← hxj]; exact dE_mk _ _ _ _) (fun k hk => hk)
  obtain ⟨hR2, hg2⟩ := R_run (P := Try.prog) (t := 68) hR1 j hj (u := .agg #[.int .i64 xi.1, kv xi.2]) (x' := es.getD i z) (okp := fun k => (P k ∧ k ≠ g ∧ k ≠ bm) ∧ k ≠ go) rfl (by kernel_rfl) (by intro q hq; simp [Value.cells] at hq; rcases hq with rfl | rfl <;> rfl) (by rw [← hxi]; exact dE_mk _ _ _ _) (fun k hk => hk)
  obtain ⟨W1, hW1⟩ : ∃ x, W.drew.setCells go (i * dE.sz) (Value.agg #[.int .i64 xj.1, kv xj.2]).cells.toList = x := ⟨_, rfl⟩
  rw [hW1] at hR1 hg1 hR2 hg2
  obtain ⟨W2, hW2⟩ : ∃ x, W1.setCells go (j * dE.sz) (Value.agg #[.int .i64 xi.1, kv xi.2]).cells.toList = x := ⟨_, rfl⟩
  rw [hW2] at hR2 hg2
  have hgl : g < W.heap.size := (Array.getElem?_eq_some_iff.1 hb).1
  have hb2 : W2.heap[g]? = some (.cells #[.slice (some ⟨go, 0, none⟩) es.length c, .map (some bm)] 66 (0, 0)) :=
    (hg2.block g (Nat.lt_of_lt_of_le hgl hg1.size) (fun e => hog (Option.some.inj e).symm)).trans ((hg1.block g (show g < W.drew.heap.size from hgl) (fun e => hog (Option.some.inj e).symm)).trans hb)
  have hM2 : W2.ownsMap Try.prog 3 (plainElem Try.prog 3) bm (Maps.size D) D := (hM.drew.kept hg1 (fun e => hom (Option.some.inj e).symm)).kept hg2 (fun e => hom (Option.some.inj e).symm)
  have hsw : (es.set i (es.getD j z)).set j (es.getD i z) = swp es i j := rfl
  rw [hsw] at hR2
  have hl2 : (swp es i j).length = es.length := swp_len es i j
  have hi2 : i < (swp es i j).length := by omega
  have hj2 : j < (swp es i j).length := by omega
  have hids : (es.map (·.1)).length = es.length := by simp
  have w1 := hwf _ (getD_mem' hj)
  have w2 := hwf _ (getD_mem' hi)
  have hh1 := (hok.hit j (by omega)).2
  have hh2 := (hok.hit i (by omega)).2
  have hOK := hok.swap (i := i) (j := j) (by omega) (by omega)
  rw [getD_fst] at hh1 hh2
  rw [← swp_fst, getD_fst, getD_fst] at hOK
  have hsz : Maps.size D = es.length := by rw [hok.sz, hids]
  obtain ⟨v1, s1, hE1, W3, hS1, hM3, hg3⟩ := own_entry hM2.drew law3 Try.underlying54 (zero3 _) (elem3 (by omega) (by omega)) (key3 w1.1 w1.2) hh1 (elem3 (a := (i : Int)) (by omega) (by omega)) (by unfold maxLen; omega)
  have hh3 : Maps.has (D.put (lk (es.getD j z).1) (.lit (.int .i64 (i : Int)))) (lk (es.getD i z).1) = true := by
    by_cases e : (es.getD i z).1 = (es.getD j z).1
    · rw [e]; exact has_put_same hok.tidy.isMap (isKey_lk _) _
    · rw [has_put_other (lk_ne e)]; exact hh2
  obtain ⟨v2, s2, hE2, W4, hS2, hM4, hg4⟩ := own_entry hM3 law3 Try.underlying54 (zero3 _) (elem3 (by omega) (by omega)) (key3 w2.1 w2.2) hh3 (elem3 (a := (j : Int)) (by omega) (by omega)) (by unfold maxLen; omega)
  have hfin : HP P g (swp es i j) W4 := by
    refine ⟨some ⟨go, 0, none⟩, c, bm, _, ?_, hPg, hPm, hmg, ?_, own_tight hM4, hOK, by omega, fun e he => hwf e (mem_swp hi hj he)⟩
    · rw [hl2]
      have g2 : g < W2.heap.size := (Array.getElem?_eq_some_iff.1 hb2).1
      exact (hg4.block g (Nat.lt_of_lt_of_le g2 hg3.size) (fun e => hmg (Option.some.inj e).symm)).trans ((hg3.block g g2 (fun e => hmg (Option.some.inj e).symm)).trans hb2)
    · rw [hl2]
      exact Kd.R_grown (Kd.R_grown (Kd.R_drew hR2) hg3 (fun k hk e => hk.2.2 (Option.some.inj e))) hg4 (fun k hk e => hk.2.2 (Option.some.inj e))
  have hoff : Off P W W4 := ((((Off.refl P W).drew.grown hg1 (fun k e => by cases e; exact hPo)).grown hg2 (fun k e => by cases e; exact hPo)).drew.grown hg3 (fun k e => by cases e; exact hPm)).grown hg4 (fun k e => by cases e; exact hPm)
  have c0 : W.cell? ⟨g, 0, none⟩ = some (.slice (some ⟨go, 0, none⟩) es.length c) := cell_of_row W g 0 _ _ (0, 0) hb
  have hr4 : Kd.R dE 68 W4 0 (fun k => P k ∧ k ≠ g ∧ k ≠ bm) (.slice (some ⟨go, 0, none⟩) es.length c) (swp es i j) := Kd.R_grown (Kd.R_grown (Kd.R_drew hR2) hg3 (fun k hk e => hk.2.2 (Option.some.inj e))) hg4 (fun k hk e => hk.2.2 (Option.some.inj e))
  have hr3 : Kd.R dE 68 W3 0 (fun k => P k ∧ k ≠ g ∧ k ≠ bm) (.slice (some ⟨go, 0, none⟩) es.length c) (swp es i j) := Kd.R_grown (Kd.R_drew hR2) hg3 (fun k hk e => hk.2.2 (Option.some.inj e))
  have hb3 : W3.heap[g]? = some (.cells #[.slice (some ⟨go, 0, none⟩) es.length c, .map (some bm)] 66 (0, 0)) := (hg3.block g (Array.getElem?_eq_some_iff.1 hb2).1 (fun e => hmg (Option.some.inj e).symm)).trans hb2
  have hb4 : W4.heap[g]? = some (.cells #[.slice (some ⟨go, 0, none⟩) es.length c, .map (some bm)] 66 (0, 0)) := (hg4.block g (Array.getElem?_eq_some_iff.1 hb3).1 (fun e => hmg (Option.some.inj e).symm)).trans hb3
  have HSS : ∀ V : World, V.heap[g]? = some (.cells #[.slice (some ⟨go, 0, none⟩) es.length c, .map (some bm)] 66 (0, 0)) → Kd.R dE 68 V 0 (fun k => P k ∧ k ≠ g ∧ k ≠ bm) (.slice (some ⟨go, 0, none⟩) es.length c) (swp es i j) →
      V.cell? ⟨g, 0, none⟩ = some (.slice (some ⟨go, 0, none⟩) es.length c) ∧ V.cell? ⟨g, 1, none⟩ = some (.map (some bm)) ∧ V.cell? ⟨go, i * 2, none⟩ = some (.int .i64 xj.1) ∧ V.cell? ⟨go, j * 2, none⟩ = some (.int .i64 xi.1) := fun V hv hr => by
    obtain ⟨e0, _, _, _⟩ := elem_cells hr hi
    obtain ⟨e1, _, _, _⟩ := elem_cells hr hj
    rw [swp_i hi hj, hxj] at e0
    rw [swp_j hi hj, hxi] at e1
    exact ⟨cell_of_row V g 0 _ _ (0, 0) hv, cell_of_row V g 1 _ _ (0, 0) hv, e0, e1⟩
  have HS2 := Aside0.mk (HSS W2.drew hb2 (Kd.R_drew hR2))
  have HS3 := Aside0.mk (HSS W3 hb3 hr3)
  have HS4 := Aside0.mk (HSS W4 hb4 hr4)
  have HF := Aside0.mk hfin
  have HOF := Aside0.mk hoff
  have p0 : (0 ≤ (i : Int)) = True := eq_true (by omega)
  have p1 : ((i : Int) < (es.length : Int)) = True := eq_true (by omega)
  have q0 : (0 ≤ (j : Int)) = True := eq_true (by omega)
  have q1 : ((j : Int) < (es.length : Int)) = True := eq_true (by omega)
  have huP := Try.underlying46
  have huL := Try.underlying64
  have huE := Try.underlying68
  have huH := Try.underlying66
  have huM := Try.underlying54
  rw [hxi] at hxi0 hxi1 hE2
  rw [hxj] at hxj0 hxj1 hE1
  have e2 : ((((W.setCell ⟨go, i * 2, none⟩ (.int .i64 xj.1)).setCell ⟨go, i * 2 + 1, none⟩ (kv xj.2)).setCell ⟨go, j * 2, none⟩ (.int .i64 xi.1)).setCell ⟨go, j * 2 + 1, none⟩ (kv xi.2)).drew = W2 := by
    rw [← hW2, ← hW1]; rfl
  have k1 : (W.setCell ⟨go, i * 2, none⟩ (.int .i64 xj.1)).cell? ⟨go, i * 2 + 1, none⟩ = some (kv xi.2) := (World.cell?_setCell_other _ _ _ _ (by intro e; injection e with _ e; omega)).trans hxi1
  obtain ⟨u0, k2⟩ := cell?_setCell_some (p := ⟨go, i * 2, none⟩) (x := .int .i64 xj.1) hxj0
  obtain ⟨u1, k3⟩ := cell?_setCell_some (p := ⟨go, i * 2 + 1, none⟩) (x := kv xj.2) k2
  obtain ⟨u2, k4⟩ := cell?_setCell_some (p := ⟨go, i * 2, none⟩) (x := .int .i64 xj.1) hxj1
  obtain ⟨u3, k5⟩ := cell?_setCell_some (p := ⟨go, i * 2 + 1, none⟩) (x := kv xj.2) k4
  obtain ⟨u4, k6⟩ := cell?_setCell_some (p := ⟨go, j * 2, none⟩) (x := .int .i64 xi.1) k5
  clear k2 k4 k5 hW1 hW2
  have HE2 := Aside0.mk e2
  clear e2
  replace hS1 : (Instr.entryStore 54 (.map (some bm)) (.int .i64 (s1 : Int)) (.int .i64 (i : Int))).run Try.prog W2.drew = .ok () W3 := hS1
  replace hS2 : (Instr.entryStore 54 (.map (some bm)) (.int .i64 (s2 : Int)) (.int .i64 (j : Int))).run Try.prog W3 = .ok () W4 := hS2
  clear HSS hr3 hr4 hb3 hb4 hfin hoff hM4 hM3 hM2 hM hR2 hR1 hR hok hOK hg1 hg2 hg3 hg4 hh1 hh2 hh3 hwf w1 w2 hsw hl2 hi2 hj2 hids hsz hxi hxj hgl hb hb2 hlen hPo hPg hPm hog hom hmg hi hj
  unfold kv at *
  go_enter Try.func38, Try.ntmps38
  go_wp2
  go_region
  all_goals rw [HE2.out]
  all_goals clear k1 k3 k6 hxi0 hxi1 hxj0 hxj1 fi0 fi1 fj0 fj1 c0 HE2
  all_goals go_wp2
  all_goals go_region_held3 (fun V : World => V.cell? ⟨g, 0, none⟩ = some (.slice (some ⟨go, 0, none⟩) es.length c) ∧ V.cell? ⟨g, 1, none⟩ = some (.map (some bm)) ∧ V.cell? ⟨go, i * 2, none⟩ = some (.int .i64 xj.1) ∧ V.cell? ⟨go, j * 2, none⟩ = some (.int .i64 xi.1)) (first | exact HS2.out | exact HS3.out | exact HS4.out) (fail)
  all_goals go_wp2
  all_goals go_end0
  all_goals exact ⟨rfl, HF.out, HOF.out⟩
end Go.Proofs.Ytfmchkplnglepaa.HpI
