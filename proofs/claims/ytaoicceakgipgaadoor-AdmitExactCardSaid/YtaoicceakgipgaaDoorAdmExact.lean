/- What acts on a book answer and leave behind, case by case. No conditions. -/
import Derived.Test.YtaoicceakgipgaaDoorAdmRel
namespace Go.Proofs.YtaoicceakgipgaaDoor.Pure
open Go Go.RowKit Tithe Go.Proofs.YtaoicceakgipgaaDoor.Q Go.Proofs.YtaoicceakgipgaaDoorW.PrintWords Go.Proofs.YtaoicceakgipgaaDoorW.PrintLast Go.Proofs.YtaoicceakgipgaaDoorW.PrintMore
set_option linter.unusedVariables false
set_option linter.unusedSimpArgs false
def Inv0 (B : List S28) : Prop := Inv B (bk B)
theorem inv0_of {B : List S28} {l : List S51} (h : Inv B l) : Inv0 B := ⟨h.1, rfl, by have := h.2; rw [← this.1]; exact this.2⟩
theorem inv0_new : Inv0 bkNew := inv0_of new_inv
theorem sum_b {B : List S28} (h : Inv0 B) : 0 ≤ bkSum B ∧ bkSum B ≤ 1048576 := by
  rw [bkSum_eq h.1]
  exact ⟨(tot_b _ (fun c hc => (in_bk h.1 hc).2.2)).1, h.2.2⟩
theorem slot8 (a : Int) : 0 ≤ Int.tmod (wrap64 (Int.tmod a 8 + 8)) 8 ∧ Int.tmod (wrap64 (Int.tmod a 8 + 8)) 8 < 8 := pmod (by decide) (by decide)
theorem kind4 (a : Int) : 0 ≤ Int.tmod (wrap64 (Int.tmod a 4 + 4)) 4 ∧ Int.tmod (wrap64 (Int.tmod a 4 + 4)) 4 < 4 := pmod (by decide) (by decide)
theorem share_in (a : Int) : 1 ≤ wrap64 (Int.tmod (wrap64 (Int.tmod a 1048576 + 1048576)) 1048576 + 1) ∧ wrap64 (Int.tmod (wrap64 (Int.tmod a 1048576 + 1048576)) 1048576 + 1) ≤ 1048576 := by
  have := pmod (a := a) (c := 1048576) (by decide) (by decide)
  rw [w64 (by omega) (by omega)]; omega
theorem share_y {n : Int} (h0 : 1 ≤ n) (h1 : n ≤ 1048576) : shareB n = true := by
  unfold shareB; rw [decide_eq_true (show n ≥ 1 from h0), decide_eq_true h1]; rfl
section
variable {B : List S28} {s n : Int}
theorem e_add1 (h0 : 0 ≤ s) (h1 : s < 8) (hA : bkAt B s = true) : bkAdd B s n = (some 30, B) := by
  unfold bkAdd; rw [if_neg (by omega), if_neg (by omega), if_pos hA]
theorem e_add2 (h0 : 0 ≤ s) (h1 : s < 8) (n0 : 1 ≤ n) (n1 : n ≤ 1048576) (hA : bkAt B s = false) (ho : wrap64 (bkSum B + n) > 1048576) : bkAdd B s n = (some 80, B) := by
  unfold bkAdd; rw [if_neg (by omega), if_neg (by omega), if_neg (by rw [hA]; decide), if_neg (by rw [share_y n0 n1]; decide), if_pos ho]
theorem e_add3 (hI : Inv0 B) (h0 : 0 ≤ s) (h1 : s < 8) (n0 : 1 ≤ n) (n1 : n ≤ 1048576) (hA : bkAt B s = false) (ho : ¬ wrap64 (bkSum B + n) > 1048576) : ∃ B', bkAdd B s n = (none, B') ∧ Inv0 B' := by
  obtain ⟨l', e, B', _, h2, h3⟩ := Add_rel hI s n
  have e1 : bkAdd B s n = (none, bkSet B s ⟨s, n, 0, false⟩) := by
    unfold bkAdd; rw [if_neg (by omega), if_neg (by omega), if_neg (by rw [hA]; decide), if_neg (by rw [share_y n0 n1]; decide), if_neg ho]
  rw [e1] at h2
  obtain ⟨rfl, rfl⟩ := Prod.mk.inj h2
  exact ⟨_, e1, inv0_of h3⟩
theorem e_res1 (hA : bkAt B s = false) : bkResize B s n = (some 20, B) := by unfold bkResize; rw [if_pos hA]
theorem e_res2 (hA : bkAt B s = true) (hd : (bkGet B s).f3 = true) : bkResize B s n = (some 92, B) := by unfold bkResize; rw [if_neg (by rw [hA]; decide), if_pos hd]
theorem e_res3 (n0 : 1 ≤ n) (n1 : n ≤ 1048576) (hA : bkAt B s = true) (hd : (bkGet B s).f3 = false) (ho : wrap64 (wrap64 (bkSum B - mx (bkGet B s).f1 (bkGet B s).f2) + mx (bkGet B s).f1 n) > 1048576) : bkResize B s n = (some 80, B) := by
  unfold bkResize; rw [if_neg (by rw [hA]; decide), if_neg (by rw [hd]; decide), if_neg (by rw [share_y n0 n1]; decide), if_pos ho]
theorem e_res4 (hI : Inv0 B) (n0 : 1 ≤ n) (n1 : n ≤ 1048576) (hA : bkAt B s = true) (hd : (bkGet B s).f3 = false) (ho : ¬ wrap64 (wrap64 (bkSum B - mx (bkGet B s).f1 (bkGet B s).f2) + mx (bkGet B s).f1 n) > 1048576) : ∃ B', bkResize B s n = (none, B') ∧ Inv0 B' := by
  obtain ⟨l', e, B', _, h2, h3⟩ := Resize_rel hI s n
  have e1 : bkResize B s n = (none, bkSet B s ⟨(bkGet B s).f0, (bkGet B s).f1, n, (bkGet B s).f3⟩) := by
    unfold bkResize; rw [if_neg (by rw [hA]; decide), if_neg (by rw [hd]; decide), if_neg (by rw [share_y n0 n1]; decide), if_neg ho]
  rw [e1] at h2
  obtain ⟨rfl, rfl⟩ := Prod.mk.inj h2
  exact ⟨_, e1, inv0_of h3⟩
theorem e_die1 (hA : bkAt B s = false) : bkDie B s = (some 20, B) := by unfold bkDie; rw [if_pos hA]
theorem e_die2 (hA : bkAt B s = true) (hd : (bkGet B s).f3 = true) : bkDie B s = (some 92, B) := by unfold bkDie; rw [if_neg (by rw [hA]; decide), if_pos hd]
theorem e_die3 (hI : Inv0 B) (hA : bkAt B s = true) (hd : (bkGet B s).f3 = false) : ∃ B', bkDie B s = (none, B') ∧ Inv0 B' ∧ bkSum B' = bkSum B := by
  obtain ⟨l', e, B', _, h2, h3⟩ := Die_rel hI s
  have e1 : bkDie B s = (none, bkSet B s ⟨(bkGet B s).f0, (bkGet B s).f1, (bkGet B s).f2, true⟩) := by
    unfold bkDie; rw [if_neg (by rw [hA]; decide), if_neg (by rw [hd]; decide)]
  rw [e1] at h2
  obtain ⟨rfl, rfl⟩ := Prod.mk.inj h2
  refine ⟨_, e1, inv0_of h3, ?_⟩
  obtain ⟨L1, L2, a1, a2, a3, e, hs, hk, hf, a4⟩ := at_claim hI.1 hA
  obtain ⟨e2, _⟩ := a4 ⟨(bkGet B s).f0, (bkGet B s).f1, (bkGet B s).f2, true⟩
  have okn : okc (cv ⟨(bkGet B s).f0, (bkGet B s).f1, (bkGet B s).f2, true⟩) := hk
  rw [okc_nz okn] at e2
  simp only [Bool.false_eq_true, if_false, List.singleton_append] at e2
  rw [bkSum_eq h3.1, bkSum_eq hI.1, e2, e, tot_append, tot_append, tot_cons, tot_cons]
  rfl
theorem e_cro1 (hA : bkAt B s = false) : bkCross B s = (0, some 20, B) := by unfold bkCross; rw [if_pos hA]
theorem of_f (hA : bkAt B s = false) : bkOf B s = (0, 0, 0, false, false, B) := by unfold bkOf; rw [if_neg (by rw [hA]; decide)]
theorem of_t (hA : bkAt B s = true) : bkOf B s = ((bkGet B s).f0, (bkGet B s).f1, (bkGet B s).f2, (bkGet B s).f3, true, B) := by unfold bkOf; rw [if_pos hA]
theorem cross_sum (hI : Inv0 B) (hA : bkAt B s = true) {c : S28} (hc : okc (cv c) ∨ clz c = true) (hf : c.f0 = s ∨ clz c = true) :
    Inv0 (bkSet B s c) ∨ True := .inr trivial
theorem e_cro2 (hI : Inv0 B) (hA : bkAt B s = true) (hd : (bkGet B s).f3 = true) : ∃ B', bkCross B s = (2, none, B') ∧ Inv0 B' ∧ bkOf B' s = (0, 0, 0, false, false, B') ∧
    wrap64 (wrap64 (bkSum B - mx (bkGet B s).f1 (bkGet B s).f2) + 0) = bkSum B' := by
  obtain ⟨l', x, e, B', _, h2, h3⟩ := Cross_rel hI s
  have e1 : bkCross B s = (2, none, bkSet B s z28) := by unfold bkCross; rw [if_neg (by rw [hA]; decide), if_pos hd]
  rw [e1] at h2
  obtain ⟨rfl, h4⟩ := Prod.mk.inj h2
  obtain ⟨rfl, rfl⟩ := Prod.mk.inj h4
  obtain ⟨p0, p1⟩ := at_in hA
  refine ⟨_, e1, inv0_of h3, of_f ?_, ?_⟩
  · rw [at_eq p0 p1, bkGet_set hI.1.1 p0 p1]; rfl
  · obtain ⟨L1, L2, a1, a2, a3, e, hs, hk, hf, a4⟩ := at_claim hI.1 hA
    obtain ⟨e2, _⟩ := a4 z28
    rw [show clz z28 = true from rfl] at e2
    simp only [if_true, List.nil_append] at e2
    have b1 := cnt_b hk
    have sb := sum_b hI
    have c1 : cnt (cv (bkGet B s)) = mx (bkGet B s).f1 (bkGet B s).f2 := rfl
    have hsum : bkSum B = tot L1 + (cnt (cv (bkGet B s)) + tot L2) := by rw [bkSum_eq hI.1, e, tot_append, tot_cons]
    have hsum2 : bkSum (bkSet B s z28) = tot L1 + tot L2 := by rw [bkSum_eq h3.1, e2, tot_append]
    rw [← c1, hsum2, w64 (n := bkSum B - cnt (cv (bkGet B s))) (by omega) (by omega), w64 (by omega) (by omega)]
    omega
theorem e_cro3 (hI : Inv0 B) (hA : bkAt B s = true) (hd : (bkGet B s).f3 = false) (hq : (bkGet B s).f2 = 0) : bkCross B s = (0, none, B) ∧ wrap64 (wrap64 (bkSum B - mx (bkGet B s).f1 0) + (bkGet B s).f1) = bkSum B := by
  refine ⟨by unfold bkCross; rw [if_neg (by rw [hA]; decide), if_neg (by rw [hd]; decide), if_pos hq], ?_⟩
  obtain ⟨L1, L2, a1, a2, a3, e, hs, hk, hf, a4⟩ := at_claim hI.1 hA
  have sb := sum_b hI
  have h1 : 1 ≤ (bkGet B s).f1 ∧ (bkGet B s).f1 ≤ 1048576 := ⟨hk.1, hk.2.1⟩
  have hm : mx (bkGet B s).f1 0 = (bkGet B s).f1 := by unfold mx; rw [if_neg (by omega)]
  rw [hm, w64 (n := bkSum B - (bkGet B s).f1) (by omega) (by omega), w64 (by omega) (by omega)]
  omega
theorem e_cro4 (hI : Inv0 B) (hA : bkAt B s = true) (hd : (bkGet B s).f3 = false) (hq : (bkGet B s).f2 ≠ 0) : ∃ B', bkCross B s = (1, none, B') ∧ Inv0 B' ∧ bkOf B' s = ((bkGet B s).f0, (bkGet B s).f2, 0, false, true, B') ∧
    wrap64 (wrap64 (bkSum B - mx (bkGet B s).f1 (bkGet B s).f2) + (bkGet B s).f2) = bkSum B' := by
  obtain ⟨l', x, e, B', _, h2, h3⟩ := Cross_rel hI s
  have e1 : bkCross B s = (1, none, bkSet B s ⟨(bkGet B s).f0, (bkGet B s).f2, 0, (bkGet B s).f3⟩) := by unfold bkCross; rw [if_neg (by rw [hA]; decide), if_neg (by rw [hd]; decide), if_neg hq]
  rw [e1] at h2
  obtain ⟨rfl, h4⟩ := Prod.mk.inj h2
  obtain ⟨rfl, rfl⟩ := Prod.mk.inj h4
  obtain ⟨p0, p1⟩ := at_in hA
  obtain ⟨L1, L2, a1, a2, a3, e, hs, hk, hf, a4⟩ := at_claim hI.1 hA
  have hk3 : (0 : Int) ≤ (bkGet B s).f2 ∧ (bkGet B s).f2 ≤ 1048576 := hk.2.2
  have okn : okc (cv ⟨(bkGet B s).f0, (bkGet B s).f2, 0, (bkGet B s).f3⟩) := ⟨show 1 ≤ (bkGet B s).f2 by omega, hk3.2, Int.le_refl 0, show (0 : Int) ≤ 1048576 by decide⟩
  have hg := bkGet_set hI.1.1 p0 p1 ⟨(bkGet B s).f0, (bkGet B s).f2, 0, (bkGet B s).f3⟩
  refine ⟨_, e1, inv0_of h3, ?_, ?_⟩
  · rw [of_t (by rw [at_eq p0 p1, hg, okc_nz okn]; rfl), hg]
    simp only [hd]
  · obtain ⟨e2, _⟩ := a4 ⟨(bkGet B s).f0, (bkGet B s).f2, 0, (bkGet B s).f3⟩
    rw [okc_nz okn] at e2
    simp only [Bool.false_eq_true, if_false, List.singleton_append] at e2
    have b1 := cnt_b hk
    have sb := sum_b hI
    have c1 : cnt (cv (bkGet B s)) = mx (bkGet B s).f1 (bkGet B s).f2 := rfl
    have c2 : cnt (cv ⟨(bkGet B s).f0, (bkGet B s).f2, 0, (bkGet B s).f3⟩) = (bkGet B s).f2 := by
      show mx (bkGet B s).f2 0 = _; unfold mx; rw [if_neg (by omega)]
    have hsum : bkSum B = tot L1 + (cnt (cv (bkGet B s)) + tot L2) := by rw [bkSum_eq hI.1, e, tot_append, tot_cons]
    have hsum2 : bkSum (bkSet B s ⟨(bkGet B s).f0, (bkGet B s).f2, 0, (bkGet B s).f3⟩) = tot L1 + ((bkGet B s).f2 + tot L2) := by rw [bkSum_eq h3.1, e2, tot_append, tot_cons, c2]
    rw [← c1, hsum2, w64 (n := bkSum B - cnt (cv (bkGet B s))) (by omega) (by omega), w64 (by omega) (by omega)]
    omega
end
end Go.Proofs.YtaoicceakgipgaaDoor.Pure
