/- Proved here: what up does to a heap: it moves one entry as far ahead as it goes. No conditions. -/
import Derived.Test.YtfmchkplnglepaaHpSwapI
namespace Go.Proofs.Ytfmchkplnglepaa.HpI
open Go.RowKit Go.Proofs.YtfmchkplnglepaaW.PrintWords Go.Proofs.YtfmchkplnglepaaW.PrintLast Go.Proofs.YtfmchkplnglepaaW.PrintMore
open Go Go.Maps Go.Proofs.Ytfmchkplnglepaa.Hp
set_option linter.unusedVariables false
set_option linter.unusedSimpArgs false
/-- goes the one ahead of the other? -/
def bef (a b : En) : Bool := decide (a.2 < b.2) || (decide (a.2 = b.2) && decide (a.1 < b.1))
theorem bef_f (a b : En) : R.heap_before_int.f a.1 a.2 b.1 b.2 = some (bef a b) := by
  unfold bef R.heap_before_int.f R.cmp_Compare_int.f R.cmp_isNaN_int.f
  simp only [Option.bind_some, bne_self_eq_false, Bool.false_eq_true, if_false]
  by_cases h1 : a.2 < b.2
  · simp [h1]
  · by_cases h2 : a.2 > b.2
    · have h3 : ¬ a.2 = b.2 := by omega
      simp [h1, h2, h3]
    · have h3 : a.2 = b.2 := by omega
      simp [h3]
def upL : Nat → List En → Nat → List En
  | 0, es, _ => es
  | f + 1, es, i => if 0 < i ∧ bef (es.getD i z) (es.getD ((i - 1) / 2) z) = true then upL f (swp es i ((i - 1) / 2)) ((i - 1) / 2) else es
/-- what a heap's reads find -/
theorem HP.look {P : Nat → Prop} {g : Nat} {es : List En} {W : World} (h : HP P g es W) (hp : 0 < es.length) : ∃ (go c : Nat), W.cell? ⟨g, 0, none⟩ = some (.slice (some ⟨go, 0, none⟩) es.length c) ∧
    ∀ m, m < es.length → W.cell? ⟨go, m * 2, none⟩ = some (.int .i64 (es.getD m z).1) ∧ W.cell? ⟨go, m * 2 + 1, none⟩ = some (kv (es.getD m z).2) := by
  obtain ⟨A, c, bm, D, hb, hPg, hPm, hmg, hR, hM, hok, _, _⟩ := h
  obtain ⟨go, co, eo, gb, gl, cl, HGo⟩ := Kd.R_form hR hp
  injection eo with ea en ec
  subst ea
  exact ⟨go, c, cell_of_row W g 0 _ _ (0, 0) hb, fun m hm => ⟨(elem_cells hR hm).1, (elem_cells hR hm).2.1⟩⟩
theorem Off.below {P : Nat → Prop} {W W1 W2 : World} (h : Off P W W1) (hb : Below W1.heap.size W1 W2) : Off P W W2 := h.trans ⟨hb.os, hb.tape, hb.output, hb.size, fun k hk _ => hb.block k hk⟩
/-- a heap, and what was kept since W0 -/
def Ups (P : Nat → Prop) (g : Nat) (es : List En) (W0 V : World) : Prop := HP P g es V ∧ Off P W0 V
theorem Ups.below {P : Nat → Prop} {g : Nat} {es : List En} {W0 V V1 : World} (h : Ups P g es W0 V) (hb : Below V.heap.size V V1) : Ups P g es W0 V1 := ⟨h.1.off (fun k hk _ => hb.block k hk), h.2.below hb⟩
theorem Ups.drewN {P : Nat → Prop} {g : Nat} {es : List En} {W0 V : World} (h : Ups P g es W0 V) (n : Nat) : Ups P g es W0 (V.drewN n) := h.below (pw_below_drewN (Below.refl _ _) n)
theorem Ups.drew {P : Nat → Prop} {g : Nat} {es : List En} {W0 V : World} (h : Ups P g es W0 V) : Ups P g es W0 V.drew := h.below (below_drew1 (Below.refl _ _))
theorem Ups.alloc {P : Nat → Prop} {g : Nat} {es : List En} {W0 V : World} (h : Ups P g es W0 V) (o : Obj) : Ups P g es W0 (V.alloc o) := h.below (below_alloc (Below.refl _ _) o)
set_option maxHeartbeats 16000000 in
set_option maxRecDepth 100000 in
theorem up_calls {P : Nat → Prop} {W : World} {g : Nat} {es : List En} {i : Nat} (h : HP P g es W) (hi : i < es.length) :
    Calls Try.prog 27 #[.pointer (some ⟨g, 0, none⟩), .int .i64 (i : Int)] W fun e W' => e = .returned (.tuple #[]) ∧ HP P g (upL (i + 1) es i) W' ∧ Off P W W' := by
  have hlen := h.len
  have huP := Try.underlying46
  have huL := Try.underlying64
  have huE := Try.underlying68
  have huH := Try.underlying66
  have HH := Aside0.mk h
  have HI := Aside0.mk hi
  have HL := Aside0.mk hlen
  clear h hi hlen
  go_enter Try.func27, Try.ntmps27
  go_wp2
  go_loopg [1] (i + 1) (fun kq v1 w' => ∃ (m : Nat) (xs : List En), v1 = .int .i64 (m : Int) ∧ Aside0 (m < kq ∧ m < xs.length ∧ xs.length ≤ 1000000 ∧ upL kq xs m = upL (i + 1) es i) ∧ Aside0 (Ups P g xs W w'))
  case atStart => exact ⟨i, es, rfl, ⟨⟨by omega, HI.out, HL.out, rfl⟩⟩, ⟨HH.out, Off.refl _ _⟩⟩
  case round =>
    clear HH HI HL
    obtain ⟨m, xs, rfl, HK, HU⟩ := hrel
    cases gk with
    | zero => exact absurd HK.out (by omega)
    | succ k2 =>
      obtain ⟨go, c, c0, hel⟩ := HU.out.1.look (by have := HK.out; omega)
      by_cases hm : 0 < m
      · have d0 : decide (0 < (m : Int)) = true := decide_eq_true (by omega)
        have d0' : decide (0 < m) = true := decide_eq_true hm
        obtain ⟨q, hq⟩ : ∃ q, q = m - 1 := ⟨_, rfl⟩
        obtain ⟨p, hp⟩ : ∃ p, p = q / 2 := ⟨_, rfl⟩
        have hpm : (m - 1) / 2 = p := by omega
        have hpl : p < m := by omega
        have e1_ := Aside0.mk (show IntKind.i64.wrap ((m : Int) - 1) = (q : Int) by have := HK.out; rw [i64_w]; unfold wrap64; omega)
        have e1q_ := Aside0.mk (show wrap64 ((m : Int) - 1) = (q : Int) by have := HK.out; unfold wrap64; omega)
        have e2 : Int.tdiv (q : Int) 2 = (p : Int) := by rw [hp]; exact (Int.ofNat_tdiv q 2)
        have e3_ := Aside0.mk (show IntKind.i64.wrap (p : Int) = (p : Int) by have := HK.out; rw [i64_w]; unfold wrap64; omega)
        have e3q_ := Aside0.mk (show wrap64 (p : Int) = (p : Int) by have := HK.out; unfold wrap64; omega)
        have p0 : (0 ≤ (m : Int)) = True := eq_true (by omega)
        have p1 : ((m : Int) < (xs.length : Int)) = True := eq_true (by have := HK.out; omega)
        have q0 : (0 ≤ (p : Int)) = True := eq_true (by omega)
        have q1 : ((p : Int) < (xs.length : Int)) = True := eq_true (by have := HK.out; omega)
        obtain ⟨x0, x1⟩ := hel m (by have := HK.out; omega)
        obtain ⟨y0, y1⟩ := hel p (by have := HK.out; omega)
        obtain ⟨b, hb⟩ : ∃ b, bef (xs.getD m z) (xs.getD p z) = b := ⟨_, rfl⟩
        have HBF := Aside0.mk (show R.heap_before_int.f (xs.getD m z).1 (xs.getD m z).2 (xs.getD p z).1 (xs.getD p z).2 = some b by rw [bef_f, hb])
        obtain ⟨xm, hxm⟩ : ∃ x, xs.getD m z = x := ⟨_, rfl⟩
        obtain ⟨xp, hxp⟩ : ∃ x, xs.getD p z = x := ⟨_, rfl⟩
        rw [hxm] at x0 x1
        rw [hxp] at y0 y1
        rw [hxm, hxp] at HBF
        have HUP := Aside0.mk (show upL (k2 + 1) xs m = cond b (upL k2 (swp xs m p) p) xs by rw [upL, hpm, hb]; cases b <;> simp [hm])
        have HPM := Aside0.mk (show p < m ∧ p < xs.length ∧ m < xs.length by have := HK.out; omega)
        have HME := Aside0.mk (show k2 < k2 + 1 ∧ (p < k2 ∧ p < (swp xs m p).length ∧ (swp xs m p).length ≤ 1000000) from ⟨by omega, by have := HK.out; omega, by rw [swp_len]; exact HPM.out.2.1, by rw [swp_len]; exact HK.out.2.2.1⟩)
        clear hel hm hq hp hpm hpl hb hxm hxp
        have e1 := e1_.out
        have e1' := e1q_.out
        have e3 := e3_.out
        have e3' := e3q_.out
        unfold kv at *
        cases b with
        | true =>
          go_wp2_with fail
          go_region_held3 (fun V : World => V.cell? ⟨g, 0, none⟩ = some (.slice (some ⟨go, 0, none⟩) xs.length c) ∧ V.cell? ⟨go, m * 2, none⟩ = some (.int .i64 xm.1) ∧ V.cell? ⟨go, m * 2 + 1, none⟩ = some (.int .i64 xm.2) ∧ V.cell? ⟨go, p * 2, none⟩ = some (.int .i64 xp.1) ∧ V.cell? ⟨go, p * 2 + 1, none⟩ = some (.int .i64 xp.2) ∧ Ups P g xs W V) (exact ⟨by first | exact c0 | exact C0, by first | exact x0 | exact X0, by first | exact x1 | exact X1, by first | exact y0 | exact Y0, by first | exact y1 | exact Y1, by repeat (first | exact HU.out | apply Ups.drew | apply Ups.drewN | apply Ups.alloc)⟩) (first | (go_at_call 31; (with_reducible refine (R.heap_before_int.calls xm.1 xm.2 xp.1 xp.2 true _ HBF.out).mono ?_); rintro e w6 ⟨rfl, hb6⟩; have C0 := pw_cell_below hb6 c0; have X0 := pw_cell_below hb6 x0; have X1 := pw_cell_below hb6 x1; have Y0 := pw_cell_below hb6 y0; have Y1 := pw_cell_below hb6 y1; have HU6 := Aside0.mk (Ups.below (show Ups P g xs W _ from by repeat (first | exact HU.out | apply Ups.drew | apply Ups.drewN | apply Ups.alloc)) hb6); clear hb6; clear HU; have HU := HU6; clear HU6))
          all_goals clear x0 x1 y0 y1 c0 C0 X0 X1 Y0 Y1
          all_goals go_wp2_with (first | (go_at_call 38; refine (swap_calls (P := P) (es := xs) (i := m) (j := p) (show Ups P g xs W _ from by repeat (first | exact HU.out | apply Ups.drew | apply Ups.drewN | apply Ups.alloc)).1 HPM.out.2.2 HPM.out.2.1).mono ?_; rintro e w2 ⟨rfl, hh, ho⟩; have HU2 := Aside0.mk (show Ups P g (swp xs m p) W w2 from ⟨hh, (show Ups P g xs W _ from by repeat (first | exact HU.out | apply Ups.drew | apply Ups.drewN | apply Ups.alloc)).2.trans ho⟩); clear hh ho))
          go_roundg k2
          case measure => exact HME.out.1
          case rel => exact ⟨p, swp xs m p, by first | rfl | (simp; done) | (simp [*]; done), ⟨⟨HME.out.2.1, HME.out.2.2.1, HME.out.2.2.2, by have e : upL (k2 + 1) xs m = upL k2 (swp xs m p) p := HUP.out; rw [← e]; exact HK.out.2.2.2⟩⟩, HU2⟩
        | false =>
          go_wp2_with fail
          go_region_held3 (fun V : World => V.cell? ⟨g, 0, none⟩ = some (.slice (some ⟨go, 0, none⟩) xs.length c) ∧ V.cell? ⟨go, m * 2, none⟩ = some (.int .i64 xm.1) ∧ V.cell? ⟨go, m * 2 + 1, none⟩ = some (.int .i64 xm.2) ∧ V.cell? ⟨go, p * 2, none⟩ = some (.int .i64 xp.1) ∧ V.cell? ⟨go, p * 2 + 1, none⟩ = some (.int .i64 xp.2) ∧ Ups P g xs W V) (exact ⟨by first | exact c0 | exact C0, by first | exact x0 | exact X0, by first | exact x1 | exact X1, by first | exact y0 | exact Y0, by first | exact y1 | exact Y1, by repeat (first | exact HU.out | apply Ups.drew | apply Ups.drewN | apply Ups.alloc)⟩) (first | (go_at_call 31; (with_reducible refine (R.heap_before_int.calls xm.1 xm.2 xp.1 xp.2 false _ HBF.out).mono ?_); rintro e w6 ⟨rfl, hb6⟩; have C0 := pw_cell_below hb6 c0; have X0 := pw_cell_below hb6 x0; have X1 := pw_cell_below hb6 x1; have Y0 := pw_cell_below hb6 y0; have Y1 := pw_cell_below hb6 y1; have HU6 := Aside0.mk (Ups.below (show Ups P g xs W _ from by repeat (first | exact HU.out | apply Ups.drew | apply Ups.drewN | apply Ups.alloc)) hb6); clear hb6; clear HU; have HU := HU6; clear HU6))
          go_wp2
          go_end0
          exact ⟨rfl, by have e : upL (k2 + 1) xs m = xs := HUP.out; rw [← HK.out.2.2.2, e]; exact (show Ups P g xs W _ from by repeat (first | exact HU.out | apply Ups.drew | apply Ups.drewN | apply Ups.alloc))⟩
      · have d0 : decide (0 < (m : Int)) = false := decide_eq_false (by omega)
        have d0' : decide (0 < m) = false := decide_eq_false hm
        have hm0 : m = 0 := by omega
        subst hm0
        have HUP := Aside0.mk (show upL (k2 + 1) xs 0 = xs by rw [upL]; simp)
        clear hel hm
        go_wp2_with fail
        go_quiet (fail)
        go_wp2
        go_end0
        exact ⟨rfl, by rw [← HK.out.2.2.2, HUP.out]; exact (show Ups P g xs W _ from by repeat (first | exact HU.out | apply Ups.drew | apply Ups.drewN | apply Ups.alloc))⟩
end Go.Proofs.Ytfmchkplnglepaa.HpI
