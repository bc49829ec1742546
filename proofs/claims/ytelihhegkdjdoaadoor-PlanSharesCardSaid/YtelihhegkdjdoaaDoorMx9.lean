/- Proved here: what the machine does at calls of the functions that the laws reach is what plain functions of the same names say, or a row of the given statement out of that. No conditions. Written by a program of this session over the printer of the kit. -/
import Derived.Test.YtelihhegkdjdoaaDoorIsE
import Derived.Test.YtelihhegkdjdoaaDoorMx0
namespace Go.Proofs.YtelihhegkdjdoaaDoor.M
open Go.RowKit Go.Proofs.YtelihhegkdjdoaaDoorW.PrintWords Go.Proofs.YtelihhegkdjdoaaDoorW.PrintLast Go.Proofs.YtelihhegkdjdoaaDoorW.PrintMore
attribute [local go_sem] max2_int min2_int max_two min_two max_three min_three max_four min_four   -- for this text's walks alone
set_option linter.unusedVariables false
set_option linter.unusedSimpArgs false

/-! ### fixed_Sum: function 29 -/
mutual
def fixed_Sum.l0 : Nat → List Int → List Int → Int → Int → Option (Int × Option Int)
 | 0, _, _, _, _ => none
 | k + 1, x0, x9, x10, x11 => if x11 < x10 then (if 0 ≤ x11 then (if x11 < (x9.length : Int) then (if (rd x9 x11) < 0 then (some (0, some 1)) else (fixed_Sum.l0 k x0 x9 x10 (wrap64 (x11 + 1)))) else (none)) else (none)) else (fixed_Sum.l1 k 0 x0 (x0.length : Int) 0)
def fixed_Sum.l1 : Nat → Int → List Int → Int → Int → Option (Int × Option Int)
 | 0, _, _, _, _ => none
 | k + 1, x6, x19, x20, x21 => if x21 < x20 then (if 0 ≤ x21 then (if x21 < (x19.length : Int) then (if (rd x19 x21) > (wrap64 (9223372036854775807 - x6)) then (some (0, some 10)) else (fixed_Sum.l1 k (wrap64 (x6 + (rd x19 x21))) x19 x20 (wrap64 (x21 + 1)))) else (none)) else (none)) else (some (x6, none))
end
def fixed_Sum.f (k : Nat) (l0 : List Int) : Option (Int × Option Int) := fixed_Sum.l0 k l0 l0 (l0.length : Int) 0
theorem fixed_Sum.mono_l : ∀ k, (∀ y0 y1 y2 y3, LeO (fixed_Sum.l0 k y0 y1 y2 y3) (fixed_Sum.l0 (k + 1) y0 y1 y2 y3)) ∧ (∀ y0 y1 y2 y3, LeO (fixed_Sum.l1 k y0 y1 y2 y3) (fixed_Sum.l1 (k + 1) y0 y1 y2 y3))
 | 0 => ⟨fun _ _ _ _ r h => by simp [fixed_Sum.l0] at h, fun _ _ _ _ r h => by simp [fixed_Sum.l1] at h⟩
 | k + 1 => by
  obtain ⟨ih0, ih1⟩ := fixed_Sum.mono_l k
  refine ⟨?_, ?_⟩
  ·intro y0 y1 y2 y3
   unfold fixed_Sum.l0
   repeat' first
   | (with_reducible exact ih0 _ _ _ _)
   | (with_reducible exact ih1 _ _ _ _)
   | (with_reducible exact LeO.refl _)
   | (with_reducible exact LeO.none _)
   | (with_reducible refine LeO.ite ?_ ?_)
   | (with_reducible refine LeO.bind ?_ (fun _ => ?_))
   | exact ih0 _ _ _ _
   | exact ih1 _ _ _ _
   | exact LeO.none _
   | refine LeO.ite ?_ ?_
   | refine LeO.bind ?_ (fun _ => ?_)
  ·intro y0 y1 y2 y3
   unfold fixed_Sum.l1
   repeat' first
   | (with_reducible exact ih0 _ _ _ _)
   | (with_reducible exact ih1 _ _ _ _)
   | (with_reducible exact LeO.refl _)
   | (with_reducible exact LeO.none _)
   | (with_reducible refine LeO.ite ?_ ?_)
   | (with_reducible refine LeO.bind ?_ (fun _ => ?_))
   | exact ih0 _ _ _ _
   | exact ih1 _ _ _ _
   | exact LeO.none _
   | refine LeO.ite ?_ ?_
   | refine LeO.bind ?_ (fun _ => ?_)
theorem fixed_Sum.mono : ∀ a0 k, LeO (fixed_Sum.f k a0) (fixed_Sum.f (k + 1) a0) := by
 intro a0 k
 obtain ⟨ih0, ih1⟩ := fixed_Sum.mono_l k
 unfold fixed_Sum.f
 repeat' first
   | (with_reducible exact ih0 _ _ _ _)
   | (with_reducible exact ih1 _ _ _ _)
   | (with_reducible exact LeO.refl _)
   | (with_reducible exact LeO.none _)
   | (with_reducible refine LeO.ite ?_ ?_)
   | (with_reducible refine LeO.bind ?_ (fun _ => ?_))
   | exact ih0 _ _ _ _
   | exact ih1 _ _ _ _
   | exact LeO.none _
   | refine LeO.ite ?_ ?_
   | refine LeO.bind ?_ (fun _ => ?_)
set_option maxHeartbeats 8000000 in
set_option maxRecDepth 100000 in
theorem fixed_Sum.calls (k : Nat) (A0 : Option Addr) (c0 : Nat) (l0 : List Int) (r1 : Int) (r2 : Option Int) (w : World) (hr0 : Kd.C (Kd.int .i64) w A0 l0.length l0) (hc0 : l0.length ≤ c0) (h : fixed_Sum.f k l0 = some (r1, r2)) :
  Calls Tryd.prog 29 #[.slice A0 l0.length c0] w fun e w' => e = .returned (.tuple #[.int .i64 r1, errW r2]) ∧ Drawn0 w w' := by
 have hu27 := Tryd.underlying27
 have hu45 := Tryd.underlying45
 have HR0 := Aside0.mk hr0
 have HC0 := Aside0.mk hc0
 clear hr0 hc0
 have H : (fixed_Sum.l0 k l0 l0 (l0.length : Int) 0) = some (r1, r2) := h
 clear h
 have H' := Aside0.mk H
 clear H
 go_enter Tryd.func29, Tryd.ntmps29
 go_wp2
 go_loopg [11] k (fun kq v11 w' => ∃ (x11_1 : Int), v11 = .int .i64 x11_1 ∧ Aside0 (fixed_Sum.l0 kq l0 l0 (l0.length : Int) x11_1 = some (r1, r2)) ∧ Aside0 (kq ≤ k) ∧ Drawn0 w w')
 case atStart => exact ⟨(0), (by first | rfl | (simp; done) | (simp [*]; done)), H', ⟨Nat.le_refl _⟩, by repeat (first | exact Drawn0.refl _ | apply Drawn0.step)⟩
 case round =>
  clear H'
  obtain ⟨x11_1, rfl, HA, HK1, ⟨m1, rfl⟩⟩ := hrel
  cases gk with
  | zero => exact absurd HA.out (by simp [fixed_Sum.l0])
  | succ k1 =>
   have H := HA.out
   clear HA
   simp only [fixed_Sum.l0] at H
   by_cases c2 : x11_1 < (l0.length : Int)
   ·rw [if_pos c2] at H
    have c2b0 : decide (x11_1 < (l0.length : Int)) = true := decide_eq_true c2
    clear c2
    by_cases c3 : 0 ≤ x11_1
    ·rw [if_pos c3] at H
     have c3b0 : decide (0 ≤ x11_1) = true := decide_eq_true c3
     clear c3
     by_cases c4 : x11_1 < (l0.length : Int)
     ·rw [if_pos c4] at H
      have c4b0 : decide (x11_1 < (l0.length : Int)) = true := decide_eq_true c4
      clear c4
      by_cases c5 : (rd l0 x11_1) < 0
      ·rw [if_pos c5] at H
       have c5b0 : decide ((rd l0 x11_1) < 0) = true := decide_eq_true c5
       clear c5
       simp only [Option.some.injEq, Prod.mk.injEq] at H
       obtain ⟨rfl, rfl⟩ := H
       have p191 : 0 ≤ (x11_1 : Int) := of_decide_eq_true (by first | (with_reducible assumption) | assumption)
       have q191 : x11_1 < (l0.length : Int) := of_decide_eq_true (by first | (with_reducible assumption) | assumption)
       obtain ⟨ad191, e191, hx191_0⟩ := Kd.at_int HR0.out x11_1 p191 q191
       cases e191
       replace p191 := eq_true p191
       replace q191 := eq_true q191
       go_wp2
       go_ret2
       exact ⟨by first | rfl | (simp; done) | (simp [*]; done), by repeat (first | exact Drawn0.refl _ | apply Drawn0.step)⟩
      ·rw [if_neg c5] at H
       have c5b0 : decide ((rd l0 x11_1) < 0) = false := decide_eq_false c5
       clear c5
       have H' := Aside0.mk H
       clear H
       have p191 : 0 ≤ (x11_1 : Int) := of_decide_eq_true (by first | (with_reducible assumption) | assumption)
       have q191 : x11_1 < (l0.length : Int) := of_decide_eq_true (by first | (with_reducible assumption) | assumption)
       obtain ⟨ad191, e191, hx191_0⟩ := Kd.at_int HR0.out x11_1 p191 q191
       cases e191
       replace p191 := eq_true p191
       replace q191 := eq_true q191
       go_wp2
       go_roundg k1
       case measure => have := HK1.out; omega
       case rel => exact ⟨(wrap64 (x11_1 + 1)), (by first | rfl | (simp; done) | (simp [*]; done)), H', ⟨by have := HK1.out; omega⟩, by repeat (first | exact Drawn0.refl _ | apply Drawn0.step)⟩
     ·rw [if_neg c4] at H
      exact absurd H (by simp)
    ·rw [if_neg c3] at H
     exact absurd H (by simp)
   ·rw [if_neg c2] at H
    have c2b0 : decide (x11_1 < (l0.length : Int)) = false := decide_eq_false c2
    clear c2
    have H' := Aside0.mk H
    clear H
    go_wp2
    go_loopg [6, 21] k1 (fun kq v6 v21 w' => ∃ (x6_2 : Int) (x21_2 : Int), v6 = .int .i64 x6_2 ∧ v21 = .int .i64 x21_2 ∧ Aside0 (fixed_Sum.l1 kq x6_2 l0 (l0.length : Int) x21_2 = some (r1, r2)) ∧ Aside0 (kq ≤ k1) ∧ Drawn0 w w')
    case atStart => exact ⟨(0), (0), (by first | rfl | (simp; done) | (simp [*]; done)), (by first | rfl | (simp; done) | (simp [*]; done)), H', ⟨Nat.le_refl _⟩, by repeat (first | exact Drawn0.refl _ | apply Drawn0.step)⟩
    case round =>
     clear H'
     try clear p1
     try clear q1
     try clear hx1
     try clear c2
     try clear c2b0
     try clear p2
     try clear c3
     try clear c3b0
     try clear c4
     try clear c4b0
     try clear c5
     try clear c5b0
     try clear hx191_0
     try clear p191
     try clear q191
     obtain ⟨x6_2, x21_2, rfl, rfl, HA, HK2, ⟨m2, rfl⟩⟩ := hrel
     cases gk with
     | zero => exact absurd HA.out (by simp [fixed_Sum.l1])
     | succ k2 =>
      have H := HA.out
      clear HA
      simp only [fixed_Sum.l1] at H
      by_cases c6 : x21_2 < (l0.length : Int)
      ·rw [if_pos c6] at H
       have c6b0 : decide (x21_2 < (l0.length : Int)) = true := decide_eq_true c6
       clear c6
       by_cases c7 : 0 ≤ x21_2
       ·rw [if_pos c7] at H
        have c7b0 : decide (0 ≤ x21_2) = true := decide_eq_true c7
        clear c7
        by_cases c8 : x21_2 < (l0.length : Int)
        ·rw [if_pos c8] at H
         have c8b0 : decide (x21_2 < (l0.length : Int)) = true := decide_eq_true c8
         clear c8
         by_cases c9 : (rd l0 x21_2) > (wrap64 (9223372036854775807 - x6_2))
         ·rw [if_pos c9] at H
          have c9b0 : decide ((wrap64 (9223372036854775807 - x6_2)) < (rd l0 x21_2)) = true := decide_eq_true c9
          clear c9
          simp only [Option.some.injEq, Prod.mk.injEq] at H
          obtain ⟨rfl, rfl⟩ := H
          have p192 : 0 ≤ (x21_2 : Int) := of_decide_eq_true (by first | (with_reducible assumption) | assumption)
          have q192 : x21_2 < (l0.length : Int) := of_decide_eq_true (by first | (with_reducible assumption) | assumption)
          obtain ⟨ad192, e192, hx192_0⟩ := Kd.at_int HR0.out x21_2 p192 q192
          cases e192
          replace p192 := eq_true p192
          replace q192 := eq_true q192
          go_wp2
          go_ret2
          exact ⟨by first | rfl | (simp; done) | (simp [*]; done), by repeat (first | exact Drawn0.refl _ | apply Drawn0.step)⟩
         ·rw [if_neg c9] at H
          have c9b0 : decide ((wrap64 (9223372036854775807 - x6_2)) < (rd l0 x21_2)) = false := decide_eq_false c9
          clear c9
          have H' := Aside0.mk H
          clear H
          have p192 : 0 ≤ (x21_2 : Int) := of_decide_eq_true (by first | (with_reducible assumption) | assumption)
          have q192 : x21_2 < (l0.length : Int) := of_decide_eq_true (by first | (with_reducible assumption) | assumption)
          obtain ⟨ad192, e192, hx192_0⟩ := Kd.at_int HR0.out x21_2 p192 q192
          cases e192
          replace p192 := eq_true p192
          replace q192 := eq_true q192
          go_wp2
          go_roundg k2
          case measure => have := HK1.out; have := HK2.out; omega
          case rel => exact ⟨(wrap64 (x6_2 + (rd l0 x21_2))), (wrap64 (x21_2 + 1)), (by first | rfl | (simp; done) | (simp [*]; done)), (by first | rfl | (simp; done) | (simp [*]; done)), H', ⟨by have := HK1.out; have := HK2.out; omega⟩, by repeat (first | exact Drawn0.refl _ | apply Drawn0.step)⟩
        ·rw [if_neg c8] at H
         exact absurd H (by simp)
       ·rw [if_neg c7] at H
        exact absurd H (by simp)
      ·rw [if_neg c6] at H
       have c6b0 : decide (x21_2 < (l0.length : Int)) = false := decide_eq_false c6
       clear c6
       simp only [Option.some.injEq, Prod.mk.injEq] at H
       obtain ⟨rfl, rfl⟩ := H
       go_wp2
       go_ret2
       exact ⟨by first | rfl | (simp; done) | (simp [*]; done), by repeat (first | exact Drawn0.refl _ | apply Drawn0.step)⟩

def fixed_Fits.f (k : Nat) (l0 : List Int) (a1 : Int) : Option (Bool × Option Int) :=
 if a1 < 0 then some (false, some 1) else (fixed_Sum.f k l0).bind fun bt => if bt.2 = some 10 then some (false, none) else if bt.2.isNone = true then (if a1 ≤ 1048576 then some (decide (bt.1 ≤ wrap64 (1048576 - a1)), none) else some (false, none)) else some (false, some (bt.2.getD 0))
theorem fixed_Fits.mono : ∀ a0 a1 k, LeO (fixed_Fits.f k a0 a1) (fixed_Fits.f (k + 1) a0 a1) := by
 intro a0 a1 k
 unfold fixed_Fits.f
 refine LeO.ite (LeO.refl _) (LeO.bind (fixed_Sum.mono _ _) fun _ => LeO.refl _)
set_option maxHeartbeats 8000000 in
set_option maxRecDepth 100000 in
theorem fixed_Fits.calls (k : Nat) (A0 : Option Addr) (c0 : Nat) (l0 : List Int) (a1 : Int) (r1 : Bool) (r2 : Option Int) (w : World) (hr0 : Kd.C (Kd.int .i64) w A0 l0.length l0) (hc0 : l0.length ≤ c0) (h : fixed_Fits.f k l0 a1 = some (r1, r2)) :
  Calls Tryd.prog 19 #[.slice A0 l0.length c0, .int .i64 a1] w fun e w' => e = .returned (.tuple #[.bool r1, errW r2]) ∧ Below w.heap.size w w' := by
 unfold fixed_Fits.f at h
 have HR0 := Aside0.mk hr0
 have HC0 := Aside0.mk hc0
 clear hr0 hc0
 by_cases ha : a1 < 0
 ·rw [if_pos ha] at h
  simp only [Option.some.injEq, Prod.mk.injEq] at h
  obtain ⟨rfl, rfl⟩ := h
  have hd : decide (a1 < 0) = true := decide_eq_true ha
  clear ha
  go_enter Tryd.func19, Tryd.ntmps19
  go_wp2
  go_ret2
  exact ⟨rfl, Below.refl _ _⟩
 ·rw [if_neg ha] at h
  have hd : decide (a1 < 0) = false := decide_eq_false ha
  clear ha
  replace h := Option.bind_eq_some_iff.1 h
  obtain ⟨⟨s, e⟩, hs, h⟩ := h
  have HS := Aside0.mk hs
  clear hs
  simp only [] at h
  have hn := fun W => run_eql_iface_nil_left (P := Tryd.prog) W 45 (.int .i64 10) Tryd.underlying27
  cases e with
  | none =>
   rw [if_neg (by simp)] at h
   simp only [Option.isNone_none, if_true] at h
   by_cases h1 : a1 ≤ 1048576
   ·rw [if_pos h1] at h
    simp only [Option.some.injEq, Prod.mk.injEq] at h
    obtain ⟨rfl, rfl⟩ := h
    have hd1 : decide (a1 ≤ 1048576) = true := decide_eq_true h1
    clear h1
    go_enter Tryd.func19, Tryd.ntmps19
    go_wp2_with (first | (go_at_call 29; refine (fixed_Sum.calls k _ _ l0 s none _ HR0.out HC0.out HS.out).mono ?_; rintro e w' ⟨rfl, n, rfl⟩; simp only [errW_none]))
    go_ret2
    exact ⟨rfl, by apply pw_below_drewN; exact Below.refl _ _⟩
   ·rw [if_neg h1] at h
    simp only [Option.some.injEq, Prod.mk.injEq] at h
    obtain ⟨rfl, rfl⟩ := h
    have hd1 : decide (a1 ≤ 1048576) = false := decide_eq_false h1
    clear h1
    go_enter Tryd.func19, Tryd.ntmps19
    go_wp2_with (first | (go_at_call 29; refine (fixed_Sum.calls k _ _ l0 s none _ HR0.out HC0.out HS.out).mono ?_; rintro e w' ⟨rfl, n, rfl⟩; simp only [errW_none]))
    go_ret2
    exact ⟨rfl, by apply pw_below_drewN; exact Below.refl _ _⟩
  | some x =>
   by_cases hx : x = 10
   ·subst hx
    rw [if_pos rfl] at h
    simp only [Option.some.injEq, Prod.mk.injEq] at h
    obtain ⟨rfl, rfl⟩ := h
    have heq := fun W => eql_int 10 10 W
    simp only [decide_true] at heq
    go_enter Tryd.func19, Tryd.ntmps19
    go_wp2_with (first | (go_at_call 29; refine (fixed_Sum.calls k _ _ l0 s (some 10) _ HR0.out HC0.out HS.out).mono ?_; rintro e w' ⟨rfl, n, rfl⟩; simp only [errW_some]))
    go_ret2
    exact ⟨rfl, by apply pw_below_drewN; exact Below.refl _ _⟩
   ·rw [if_neg (by simpa using hx), if_neg (by simp)] at h
    simp only [Option.some.injEq, Prod.mk.injEq] at h
    obtain ⟨rfl, rfl⟩ := h
    have heq := fun W => eql_int x 10 W
    rw [show decide (x = 10) = false from decide_eq_false hx] at heq
    clear hx
    go_enter Tryd.func19, Tryd.ntmps19
    go_wp2_with (first | (go_at_call 29; refine (fixed_Sum.calls k _ _ l0 s (some x) _ HR0.out HC0.out HS.out).mono ?_; rintro e w' ⟨rfl, n, rfl⟩; simp only [errW_some]))
    go_ret2
    exact ⟨by first | rfl | (simp [errW_some] <;> rfl) | (simp [errW_some]; done), by apply pw_below_drewN; exact Below.refl _ _⟩

end Go.Proofs.YtelihhegkdjdoaaDoor.M
