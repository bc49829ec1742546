/- Proved here: what down does to a heap: it moves one entry as far back as it goes. No conditions. -/
import Derived.Test.YtfmchkplnglepaaHpUpI
namespace Go.Proofs.Ytfmchkplnglepaa.HpI
open Go.RowKit Go.Proofs.YtfmchkplnglepaaW.PrintWords Go.Proofs.YtfmchkplnglepaaW.PrintLast Go.Proofs.YtfmchkplnglepaaW.PrintMore
open Go Go.Maps Go.Proofs.Ytfmchkplnglepaa.Hp
set_option linter.unusedVariables false
set_option linter.unusedSimpArgs false
/-- the one of two places that goes ahead -/
def step (es : List En) (l k : Nat) : Nat := if k < es.length ∧ bef (es.getD k z) (es.getD l z) = true then k else l
def leastL (es : List En) (i : Nat) : Nat := step es (step es i (2 * i + 1)) (2 * i + 2)
def downL : Nat → List En → Nat → List En
  | 0, es, _ => es
  | f + 1, es, i => if leastL es i = i then es else downL f (swp es i (leastL es i)) (leastL es i)
/-- where the inner loop stands -/
def DnR (xs : List En) (m kq : Nat) (j : Int) (l : Nat) : Prop := (kq : Int) + j = 3 ∧ 0 ≤ j ∧ j ≤ 2 ∧ l < xs.length ∧ (j = 0 → l = m) ∧ (j = 1 → l = step xs m (2 * m + 1)) ∧ (j = 2 → l = leastL xs m)
theorem step_lt {es : List En} {l k : Nat} (h : l < es.length) : step es l k < es.length := by
  unfold step; split
  · rename_i hc; exact hc.1
  · exact h
theorem leastL_lt {es : List En} {i : Nat} (h : i < es.length) : leastL es i < es.length := step_lt (step_lt h)
theorem leastL_ge (es : List En) (i : Nat) : i ≤ leastL es i := by
  unfold leastL step; split <;> split <;> omega
theorem idx0 (a b : Int) (V : World) : (Instr.index 81 (.agg #[.int .i64 a, .int .i64 b]) (.int .i64 0)).run Try.prog V = .ok (.int .i64 a) V := by kernel_rfl
theorem idx1 (a b : Int) (V : World) : (Instr.index 81 (.agg #[.int .i64 a, .int .i64 b]) (.int .i64 1)).run Try.prog V = .ok (.int .i64 b) V := by kernel_rfl
set_option maxHeartbeats 16000000 in
set_option maxRecDepth 100000 in
theorem down_calls {P : Nat → Prop} {W : World} {g : Nat} {es : List En} {i : Nat} (h : HP P g es W) (hi : i < es.length) :
    Calls Try.prog 37 #[.pointer (some ⟨g, 0, none⟩), .int .i64 (i : Int)] W fun e W' => e = .returned (.tuple #[]) ∧ HP P g (downL (es.length + 1) es i) W' ∧ Off P W W' := by
  have hlen := h.len
  have huP := Try.underlying46
  have huL := Try.underlying64
  have huE := Try.underlying68
  have huH := Try.underlying66
  have hu2 := Try.underlying81
  have hx0 := idx0
  have hx1 := idx1
  have HH := Aside0.mk h
  have HI := Aside0.mk hi
  have HL := Aside0.mk hlen
  clear h hi hlen
  go_enter Try.func37, Try.ntmps37
  go_wp2
  go_loopg [1] (es.length + 1) (fun kq v1 w' => ∃ (m : Nat) (xs : List En), v1 = .int .i64 (m : Int) ∧ Aside0 (xs.length < kq + m ∧ m < xs.length ∧ xs.length ≤ 1000000 ∧ downL kq xs m = downL (es.length + 1) es i) ∧ Aside0 (Ups P g xs W w'))
  case atStart => exact ⟨i, es, rfl, ⟨⟨by omega, HI.out, HL.out, rfl⟩⟩, ⟨HH.out, Off.refl _ _⟩⟩
  case round =>
    clear HH HI HL
    obtain ⟨m, xs, rfl, HK, HU⟩ := hrel
    cases gk with
    | zero => exact absurd HK.out (by omega)
    | succ k2 =>
      obtain ⟨q, hq⟩ : ∃ q, q = 2 * m := ⟨_, rfl⟩
      obtain ⟨ka, hka⟩ : ∃ k, k = q + 1 := ⟨_, rfl⟩
      obtain ⟨kb, hkb⟩ : ∃ k, k = q + 2 := ⟨_, rfl⟩
      have HKA := Aside0.mk (show ka = 2 * m + 1 ∧ kb = 2 * m + 2 from ⟨by omega, by omega⟩)
      have e1_ := Aside0.mk (show IntKind.i64.wrap (2 * (m : Int)) = (q : Int) by have := HK.out; rw [i64_w]; unfold wrap64; omega)
      have e2_ := Aside0.mk (show IntKind.i64.wrap ((q : Int) + 1) = (ka : Int) by have := HK.out; rw [i64_w]; unfold wrap64; omega)
      have e3_ := Aside0.mk (show IntKind.i64.wrap ((q : Int) + 2) = (kb : Int) by have := HK.out; rw [i64_w]; unfold wrap64; omega)
      have e4_ := Aside0.mk (show wrap64 (2 * (m : Int)) = (q : Int) by have := HK.out; unfold wrap64; omega)
      have e5_ := Aside0.mk (show wrap64 ((q : Int) + 1) = (ka : Int) by have := HK.out; unfold wrap64; omega)
      have e6_ := Aside0.mk (show wrap64 ((q : Int) + 2) = (kb : Int) by have := HK.out; unfold wrap64; omega)
      clear hq hka hkb
      have e1 := e1_.out
      have e2 := e2_.out
      have e3 := e3_.out
      have e4 := e4_.out
      have e5 := e5_.out
      have e6 := e6_.out
      go_wp2
      clear e1 e2 e3 e4 e5 e6 e1_ e2_ e3_ e4_ e5_ e6_
      go_loopg [4, 15] 3 (fun kq v4 v15 w' => ∃ (j : Int) (l : Nat), v4 = .int .i64 (l : Int) ∧ v15 = .int .i64 j ∧ Aside0 (DnR xs m kq j l) ∧ Aside0 (Ups P g xs W w'))
      case atStart => exact ⟨0, m, rfl, rfl, ⟨⟨by omega, by omega, by omega, HK.out.2.1, fun _ => rfl, fun h => absurd h (by omega), fun h => absurd h (by omega)⟩⟩, ⟨by repeat (first | exact HU.out | apply Ups.drew | apply Ups.drewN | apply Ups.alloc)⟩⟩
      case round =>
        clear HU
        obtain ⟨j, l, rfl, rfl, HJ, HU⟩ := hrel
        cases gk with
        | zero => exact absurd HJ.out (by unfold DnR; omega)
        | succ k3 =>
          rcases (show j = 0 ∨ j = 1 ∨ j = 2 from by have h1 := HJ.out.2.1; have h2 := HJ.out.2.2.1; omega) with rfl | rfl | rfl
          · have hkk : ka = 2 * m + 1 := by have := HKA.out; omega
            by_cases hk : ka < xs.length
            · obtain ⟨go, c, c0, hel⟩ := HU.out.1.look (by omega)
              obtain ⟨x0, x1⟩ := hel ka hk
              obtain ⟨y0, y1⟩ := hel l HJ.out.2.2.2.1
              obtain ⟨b, hb⟩ : ∃ b, bef (xs.getD ka z) (xs.getD l z) = b := ⟨_, rfl⟩
              have HBF := Aside0.mk (show R.heap_before_int.f (xs.getD ka z).1 (xs.getD ka z).2 (xs.getD l z).1 (xs.getD l z).2 = some b by rw [bef_f, hb])
              have hle : l < xs.length := HJ.out.2.2.2.1
              have d0 : decide ((ka : Int) < (xs.length : Int)) = true := decide_eq_true (by omega)
              have d0' : decide (ka < xs.length) = true := decide_eq_true (by omega)
              have p0 : (0 ≤ (ka : Int)) = True := eq_true (by omega)
              have p1 : ((ka : Int) < (xs.length : Int)) = True := eq_true (by omega)
              have q0 : (0 ≤ (l : Int)) = True := eq_true (by omega)
              have q1 : ((l : Int) < (xs.length : Int)) = True := eq_true (by omega)
              have HK3 := Aside0.mk (show k3 < k3 + 1 by omega)
              cases b with
              | true =>
                have HN := Aside0.mk (show DnR xs m k3 1 ka from by
                  have hj := HJ.out
                  have hj0 := hj.1
                  have hs : step xs l ka = ka := by unfold step; rw [if_pos ⟨hk, hb⟩]
                  refine ⟨by omega, by omega, by omega, hk, fun h => absurd h (by omega), fun _ => by rw [← hs, hkk, hj.2.2.2.2.1 rfl], fun h => absurd h (by omega)⟩)
                obtain ⟨xm, hxm⟩ : ∃ x, xs.getD ka z = x := ⟨_, rfl⟩
                obtain ⟨xp, hxp⟩ : ∃ x, xs.getD l z = x := ⟨_, rfl⟩
                rw [hxm] at x0 x1
                rw [hxp] at y0 y1
                rw [hxm, hxp] at HBF
                clear hel hb hxm hxp hk hkk hle HJ
                unfold kv at *
                go_wp2_with fail
                go_region_held3 (fun V : World => V.cell? ⟨g, 0, none⟩ = some (.slice (some ⟨go, 0, none⟩) xs.length c) ∧ V.cell? ⟨go, ka * 2, none⟩ = some (.int .i64 xm.1) ∧ V.cell? ⟨go, ka * 2 + 1, none⟩ = some (.int .i64 xm.2) ∧ V.cell? ⟨go, l * 2, none⟩ = some (.int .i64 xp.1) ∧ V.cell? ⟨go, l * 2 + 1, none⟩ = some (.int .i64 xp.2) ∧ Ups P g xs W V) (exact ⟨by first | exact c0 | exact C0, by first | exact x0 | exact X0, by first | exact x1 | exact X1, by first | exact y0 | exact Y0, by first | exact y1 | exact Y1, by repeat (first | exact HU.out | apply Ups.drew | apply Ups.drewN | apply Ups.alloc)⟩) (first | (go_at_call 31; (with_reducible refine (R.heap_before_int.calls xm.1 xm.2 xp.1 xp.2 true _ HBF.out).mono ?_); rintro e w6 ⟨rfl, hb6⟩; have C0 := pw_cell_below hb6 c0; have X0 := pw_cell_below hb6 x0; have X1 := pw_cell_below hb6 x1; have Y0 := pw_cell_below hb6 y0; have Y1 := pw_cell_below hb6 y1; have HU6 := Aside0.mk (Ups.below (show Ups P g xs W _ from by repeat (first | exact HU.out | apply Ups.drew | apply Ups.drewN | apply Ups.alloc)) hb6); clear hb6; clear HU; have HU := HU6; clear HU6))
                all_goals clear x0 x1 y0 y1 c0 C0 X0 X1 Y0 Y1
                all_goals go_wp2
                all_goals go_roundg k3
                all_goals first | exact HK3.out | exact ⟨1, ka, by first | rfl | (simp; done) | (simp [*]; done), by first | rfl | (simp; done) | (simp [*]; done), ⟨HN.out⟩, ⟨(show Ups P g xs W _ from by repeat (first | exact HU.out | apply Ups.drew | apply Ups.drewN | apply Ups.alloc))⟩⟩
              | false =>
                have HN := Aside0.mk (show DnR xs m k3 1 l from by
                  have hj := HJ.out
                  have hj0 := hj.1
                  have hs : step xs l ka = l := by unfold step; rw [if_neg (by rw [hb]; exact fun h => Bool.noConfusion h.2)]
                  refine ⟨by omega, by omega, by omega, hj.2.2.2.1, fun h => absurd h (by omega), fun _ => by rw [← hs, hkk, hj.2.2.2.2.1 rfl], fun h => absurd h (by omega)⟩)
                obtain ⟨xm, hxm⟩ : ∃ x, xs.getD ka z = x := ⟨_, rfl⟩
                obtain ⟨xp, hxp⟩ : ∃ x, xs.getD l z = x := ⟨_, rfl⟩
                rw [hxm] at x0 x1
                rw [hxp] at y0 y1
                rw [hxm, hxp] at HBF
                clear hel hb hxm hxp hk hkk hle HJ
                unfold kv at *
                go_wp2_with fail
                go_region_held3 (fun V : World => V.cell? ⟨g, 0, none⟩ = some (.slice (some ⟨go, 0, none⟩) xs.length c) ∧ V.cell? ⟨go, ka * 2, none⟩ = some (.int .i64 xm.1) ∧ V.cell? ⟨go, ka * 2 + 1, none⟩ = some (.int .i64 xm.2) ∧ V.cell? ⟨go, l * 2, none⟩ = some (.int .i64 xp.1) ∧ V.cell? ⟨go, l * 2 + 1, none⟩ = some (.int .i64 xp.2) ∧ Ups P g xs W V) (exact ⟨by first | exact c0 | exact C0, by first | exact x0 | exact X0, by first | exact x1 | exact X1, by first | exact y0 | exact Y0, by first | exact y1 | exact Y1, by repeat (first | exact HU.out | apply Ups.drew | apply Ups.drewN | apply Ups.alloc)⟩) (first | (go_at_call 31; (with_reducible refine (R.heap_before_int.calls xm.1 xm.2 xp.1 xp.2 false _ HBF.out).mono ?_); rintro e w6 ⟨rfl, hb6⟩; have C0 := pw_cell_below hb6 c0; have X0 := pw_cell_below hb6 x0; have X1 := pw_cell_below hb6 x1; have Y0 := pw_cell_below hb6 y0; have Y1 := pw_cell_below hb6 y1; have HU6 := Aside0.mk (Ups.below (show Ups P g xs W _ from by repeat (first | exact HU.out | apply Ups.drew | apply Ups.drewN | apply Ups.alloc)) hb6); clear hb6; clear HU; have HU := HU6; clear HU6))
                all_goals clear x0 x1 y0 y1 c0 C0 X0 X1 Y0 Y1
                all_goals go_wp2
                all_goals go_roundg k3
                all_goals first | exact HK3.out | exact ⟨1, l, by first | rfl | (simp; done) | (simp [*]; done), by first | rfl | (simp; done) | (simp [*]; done), ⟨HN.out⟩, ⟨(show Ups P g xs W _ from by repeat (first | exact HU.out | apply Ups.drew | apply Ups.drewN | apply Ups.alloc))⟩⟩
            · have d0 : decide ((ka : Int) < (xs.length : Int)) = false := decide_eq_false (by omega)
              have d0' : decide (ka < xs.length) = false := decide_eq_false (by omega)
              obtain ⟨go, c, c0, hel⟩ := HU.out.1.look (by have := HK.out; omega)
              have HK3 := Aside0.mk (show k3 < k3 + 1 by omega)
              have HN := Aside0.mk (show DnR xs m k3 1 l from by
                have hj := HJ.out
                have hj0 := hj.1
                have hs : step xs l ka = l := by unfold step; rw [if_neg (fun h => hk h.1)]
                refine ⟨by omega, by omega, by omega, hj.2.2.2.1, fun h => absurd h (by omega), fun _ => by rw [← hs, hkk, hj.2.2.2.2.1 rfl], fun h => absurd h (by omega)⟩)
              clear hel hk hkk HJ
              go_wp2_with fail
              go_quiet (fail)
              go_wp2
              go_roundg k3
              case measure => exact HK3.out
              case rel => exact ⟨1, l, by first | rfl | (simp; done) | (simp [*]; done), by first | rfl | (simp; done) | (simp [*]; done), ⟨HN.out⟩, ⟨(show Ups P g xs W _ from by repeat (first | exact HU.out | apply Ups.drew | apply Ups.drewN | apply Ups.alloc))⟩⟩
          · have hkk : kb = 2 * m + 2 := by have := HKA.out; omega
            by_cases hk : kb < xs.length
            · obtain ⟨go, c, c0, hel⟩ := HU.out.1.look (by omega)
              obtain ⟨x0, x1⟩ := hel kb hk
              obtain ⟨y0, y1⟩ := hel l HJ.out.2.2.2.1
              obtain ⟨b, hb⟩ : ∃ b, bef (xs.getD kb z) (xs.getD l z) = b := ⟨_, rfl⟩
              have HBF := Aside0.mk (show R.heap_before_int.f (xs.getD kb z).1 (xs.getD kb z).2 (xs.getD l z).1 (xs.getD l z).2 = some b by rw [bef_f, hb])
              have hle : l < xs.length := HJ.out.2.2.2.1
              have d0 : decide ((kb : Int) < (xs.length : Int)) = true := decide_eq_true (by omega)
              have d0' : decide (kb < xs.length) = true := decide_eq_true (by omega)
              have p0 : (0 ≤ (kb : Int)) = True := eq_true (by omega)
              have p1 : ((kb : Int) < (xs.length : Int)) = True := eq_true (by omega)
              have q0 : (0 ≤ (l : Int)) = True := eq_true (by omega)
              have q1 : ((l : Int) < (xs.length : Int)) = True := eq_true (by omega)
              have HK3 := Aside0.mk (show k3 < k3 + 1 by omega)
              cases b with
              | true =>
                have HN := Aside0.mk (show DnR xs m k3 2 kb from by
                  have hj := HJ.out
                  have hj0 := hj.1
                  have hs : step xs l kb = kb := by unfold step; rw [if_pos ⟨hk, hb⟩]
                  refine ⟨by omega, by omega, by omega, hk, fun h => absurd h (by omega), fun h => absurd h (by omega), fun _ => by rw [← hs, hkk, hj.2.2.2.2.2.1 rfl]; rfl⟩)
                obtain ⟨xm, hxm⟩ : ∃ x, xs.getD kb z = x := ⟨_, rfl⟩
                obtain ⟨xp, hxp⟩ : ∃ x, xs.getD l z = x := ⟨_, rfl⟩
                rw [hxm] at x0 x1
                rw [hxp] at y0 y1
                rw [hxm, hxp] at HBF
                clear hel hb hxm hxp hk hkk hle HJ
                unfold kv at *
                go_wp2_with fail
                go_region_held3 (fun V : World => V.cell? ⟨g, 0, none⟩ = some (.slice (some ⟨go, 0, none⟩) xs.length c) ∧ V.cell? ⟨go, kb * 2, none⟩ = some (.int .i64 xm.1) ∧ V.cell? ⟨go, kb * 2 + 1, none⟩ = some (.int .i64 xm.2) ∧ V.cell? ⟨go, l * 2, none⟩ = some (.int .i64 xp.1) ∧ V.cell? ⟨go, l * 2 + 1, none⟩ = some (.int .i64 xp.2) ∧ Ups P g xs W V) (exact ⟨by first | exact c0 | exact C0, by first | exact x0 | exact X0, by first | exact x1 | exact X1, by first | exact y0 | exact Y0, by first | exact y1 | exact Y1, by repeat (first | exact HU.out | apply Ups.drew | apply Ups.drewN | apply Ups.alloc)⟩) (first | (go_at_call 31; (with_reducible refine (R.heap_before_int.calls xm.1 xm.2 xp.1 xp.2 true _ HBF.out).mono ?_); rintro e w6 ⟨rfl, hb6⟩; have C0 := pw_cell_below hb6 c0; have X0 := pw_cell_below hb6 x0; have X1 := pw_cell_below hb6 x1; have Y0 := pw_cell_below hb6 y0; have Y1 := pw_cell_below hb6 y1; have HU6 := Aside0.mk (Ups.below (show Ups P g xs W _ from by repeat (first | exact HU.out | apply Ups.drew | apply Ups.drewN | apply Ups.alloc)) hb6); clear hb6; clear HU; have HU := HU6; clear HU6))
                all_goals clear x0 x1 y0 y1 c0 C0 X0 X1 Y0 Y1
                all_goals go_wp2
                all_goals go_roundg k3
                all_goals first | exact HK3.out | exact ⟨2, kb, by first | rfl | (simp; done) | (simp [*]; done), by first | rfl | (simp; done) | (simp [*]; done), ⟨HN.out⟩, ⟨(show Ups P g xs W _ from by repeat (first | exact HU.out | apply Ups.drew | apply Ups.drewN | apply Ups.alloc))⟩⟩
              | false =>
                have HN := Aside0.mk (show DnR xs m k3 2 l from by
                  have hj := HJ.out
                  have hj0 := hj.1
                  have hs : step xs l kb = l := by unfold step; rw [if_neg (by rw [hb]; exact fun h => Bool.noConfusion h.2)]
                  refine ⟨by omega, by omega, by omega, hj.2.2.2.1, fun h => absurd h (by omega), fun h => absurd h (by omega), fun _ => by rw [← hs, hkk, hj.2.2.2.2.2.1 rfl]; rfl⟩)
                obtain ⟨xm, hxm⟩ : ∃ x, xs.getD kb z = x := ⟨_, rfl⟩
                obtain ⟨xp, hxp⟩ : ∃ x, xs.getD l z = x := ⟨_, rfl⟩
                rw [hxm] at x0 x1
                rw [hxp] at y0 y1
                rw [hxm, hxp] at HBF
                clear hel hb hxm hxp hk hkk hle HJ
                unfold kv at *
                go_wp2_with fail
                go_region_held3 (fun V : World => V.cell? ⟨g, 0, none⟩ = some (.slice (some ⟨go, 0, none⟩) xs.length c) ∧ V.cell? ⟨go, kb * 2, none⟩ = some (.int .i64 xm.1) ∧ V.cell? ⟨go, kb * 2 + 1, none⟩ = some (.int .i64 xm.2) ∧ V.cell? ⟨go, l * 2, none⟩ = some (.int .i64 xp.1) ∧ V.cell? ⟨go, l * 2 + 1, none⟩ = some (.int .i64 xp.2) ∧ Ups P g xs W V) (exact ⟨by first | exact c0 | exact C0, by first | exact x0 | exact X0, by first | exact x1 | exact X1, by first | exact y0 | exact Y0, by first | exact y1 | exact Y1, by repeat (first | exact HU.out | apply Ups.drew | apply Ups.drewN | apply Ups.alloc)⟩) (first | (go_at_call 31; (with_reducible refine (R.heap_before_int.calls xm.1 xm.2 xp.1 xp.2 false _ HBF.out).mono ?_); rintro e w6 ⟨rfl, hb6⟩; have C0 := pw_cell_below hb6 c0; have X0 := pw_cell_below hb6 x0; have X1 := pw_cell_below hb6 x1; have Y0 := pw_cell_below hb6 y0; have Y1 := pw_cell_below hb6 y1; have HU6 := Aside0.mk (Ups.below (show Ups P g xs W _ from by repeat (first | exact HU.out | apply Ups.drew | apply Ups.drewN | apply Ups.alloc)) hb6); clear hb6; clear HU; have HU := HU6; clear HU6))
                all_goals clear x0 x1 y0 y1 c0 C0 X0 X1 Y0 Y1
                all_goals go_wp2
                all_goals go_roundg k3
                all_goals first | exact HK3.out | exact ⟨2, l, by first | rfl | (simp; done) | (simp [*]; done), by first | rfl | (simp; done) | (simp [*]; done), ⟨HN.out⟩, ⟨(show Ups P g xs W _ from by repeat (first | exact HU.out | apply Ups.drew | apply Ups.drewN | apply Ups.alloc))⟩⟩
            · have d0 : decide ((kb : Int) < (xs.length : Int)) = false := decide_eq_false (by omega)
              have d0' : decide (kb < xs.length) = false := decide_eq_false (by omega)
              obtain ⟨go, c, c0, hel⟩ := HU.out.1.look (by have := HK.out; omega)
              have HK3 := Aside0.mk (show k3 < k3 + 1 by omega)
              have HN := Aside0.mk (show DnR xs m k3 2 l from by
                have hj := HJ.out
                have hj0 := hj.1
                have hs : step xs l kb = l := by unfold step; rw [if_neg (fun h => hk h.1)]
                refine ⟨by omega, by omega, by omega, hj.2.2.2.1, fun h => absurd h (by omega), fun h => absurd h (by omega), fun _ => by rw [← hs, hkk, hj.2.2.2.2.2.1 rfl]; rfl⟩)
              clear hel hk hkk HJ
              go_wp2_with fail
              go_quiet (fail)
              go_wp2
              go_roundg k3
              case measure => exact HK3.out
              case rel => exact ⟨2, l, by first | rfl | (simp; done) | (simp [*]; done), by first | rfl | (simp; done) | (simp [*]; done), ⟨HN.out⟩, ⟨(show Ups P g xs W _ from by repeat (first | exact HU.out | apply Ups.drew | apply Ups.drewN | apply Ups.alloc))⟩⟩
          · have HLE := Aside0.mk (show l = leastL xs m ∧ l < xs.length from ⟨HJ.out.2.2.2.2.2.2 rfl, HJ.out.2.2.2.1⟩)
            clear HJ
            by_cases hlm : l = m
            · have d1 : ((l : Int) == (m : Int)) = true := beq_iff_eq.2 (by omega)
              have d2 : decide ((l : Int) = (m : Int)) = true := decide_eq_true (by omega)
              have HD := Aside0.mk (show downL (k2 + 1) xs m = xs by rw [downL, if_pos (by rw [← HLE.out.1]; exact hlm)])
              clear hlm
              go_wp2
              (try simp only [Exit.inBlock, Exit.then])
              refine bodyPost_ret (results_none rfl _ _ _) rfl ?_
              exact ⟨rfl, by rw [← HK.out.2.2.2, HD.out]; exact (show Ups P g xs W _ from by repeat (first | exact HU.out | apply Ups.drew | apply Ups.drewN | apply Ups.alloc))⟩
            · have d1 : ((l : Int) == (m : Int)) = false := beq_eq_false_iff_ne.2 (by omega)
              have d2 : decide ((l : Int) = (m : Int)) = false := decide_eq_false (by omega)
              have HD := Aside0.mk (show downL (k2 + 1) xs m = downL k2 (swp xs m l) l by rw [downL, if_neg (by rw [← HLE.out.1]; exact hlm), ← HLE.out.1])
              have HME := Aside0.mk (show k2 < k2 + 1 ∧ (swp xs m l).length < k2 + l ∧ l < (swp xs m l).length ∧ (swp xs m l).length ≤ 1000000 from by
                have h1 := leastL_ge xs m
                have h2 := HLE.out
                have h3 := HK.out
                rw [swp_len]
                exact ⟨by omega, by omega, h2.2, h3.2.2.1⟩)
              clear hlm
              go_wp2_with (first | (go_at_call 38; refine (swap_calls (P := P) (es := xs) (i := m) (j := l) (show Ups P g xs W _ from by repeat (first | exact HU.out | apply Ups.drew | apply Ups.drewN | apply Ups.alloc)).1 HK.out.2.1 HLE.out.2).mono ?_; rintro e w2 ⟨rfl, hh, ho⟩; have HU2 := Aside0.mk (show Ups P g (swp xs m l) W w2 from ⟨hh, (show Ups P g xs W _ from by repeat (first | exact HU.out | apply Ups.drew | apply Ups.drewN | apply Ups.alloc)).2.trans ho⟩); clear hh ho))
              go_roundg k2
              case measure => exact HME.out.1
              case rel => exact ⟨l, swp xs m l, by first | rfl | (simp; done) | (simp [*]; done), ⟨⟨HME.out.2.1, HME.out.2.2.1, HME.out.2.2.2, by rw [← HD.out]; exact HK.out.2.2.2⟩⟩, HU2⟩
end Go.Proofs.Ytfmchkplnglepaa.HpI
